/- Contracts of functions of the given program. Conditions: as each theorem says. -/
import Derived.Test.YtkldmgnhbomknaaGreatQZKGC
import Derived.Test.YtkldmgnhbomknaaGreatVmV
set_option linter.unusedVariables false
set_option linter.unusedSimpArgs false
namespace Go.Proofs.YtkldmgnhbomknaaGreat
open Go.Vm Go.Sort
attribute [local go_sem] List.drop_zero toNat_succ Nat.sub_zero Int.toNat_natCast Option.map_some Int.natCast_nonneg decide_eq_true_eq decide_eq_false_iff_not
inductive Sm : Vl → Rv → Prop where
  | mk (v : Vl) (m : Rv) (hK : v.kind = m.K) (hB : v.isB.1 = (decide (m.K = 2) && m.B)) (hS : v.isT.1 = m.S) (hl : v.items.length = m.L.length) (hk : v.keys = m.Keys) (hN : m.K = 3 → v.isI.1 = m.N)
    (hP : m.K = 4 → v.isP.1 = m.N ∧ v.isP.2.1 = m.M) (hi : ∀ i (h : i < v.items.length) (h2 : i < m.L.length),Sm v.items[i] m.L[i]) : Sm v m
theorem isB_kind (v : Vl) : v.isB.2 = decide (v.kind = 2) := by cases v <;> rfl
theorem isI_kind (v : Vl) : v.isI.2 = decide (v.kind = 3) := by cases v <;> rfl
theorem isP_kind (v : Vl) : v.isP.2.2 = decide (v.kind = 4) := by cases v <;> rfl
theorem isT_kind (v : Vl) : v.isT.2 = decide (v.kind = 5) := by cases v <;> rfl
theorem fnd_some {k : List UInt8} : ∀ {es : List (List UInt8 × Vl)},k ∈ es.map Prod.fst → ∃ x,fnd k es = some x
  | [],h => by simp at h
  | p :: es,h => by
    rw [fnd]
    split
    · exact ⟨_,rfl⟩
    · rename_i hne
      rw [List.map_cons,List.mem_cons] at h
      rcases h with h | h
      · exact absurd h.symm hne
      · exact fnd_some h
theorem kys_mem (es : List (List UInt8 × Vl)) (k : List UInt8) : k ∈ kys es ↔ k ∈ es.map Prod.fst := (List.mergeSort_perm _ _).mem_iff
theorem items_keys {v : Vl} (h7 : v.kind = 7) : v.items.length = v.keys.length := by
  cases v <;> first | (simp [Vl.kind] at h7; done) | simp [Vl.items,Vl.keys]
theorem at_key {v : Vl} (h7 : v.kind = 7) {i : Nat} (h : i < v.keys.length) (h2 : i < v.items.length) : v.at v.keys[i] = some v.items[i] := by
  cases v with
  | map es =>
    have hm : (kys es)[i] ∈ es.map Prod.fst := (kys_mem es _).1 (List.getElem_mem h)
    obtain ⟨x,hx⟩ := fnd_some hm
    have e : (Vl.map es).items[i] = look es (kys es)[i] := List.getElem_map ..
    rw [e,look]
    show fnd (kys es)[i] es = _
    rw [hx]; rfl
  | _ => simp [Vl.kind] at h7
theorem Ok.items {v : Vl} (h : v.Ok) : ∀ x ∈ v.items,x.Ok := by
  intro x hx
  cases h with
  | list l h1 h2 => exact h2 x hx
  | map es h1 h2 h3 h4 =>
    obtain ⟨k,hk,rfl⟩ := List.mem_map.1 hx
    obtain ⟨y,hy⟩ := fnd_some ((kys_mem es k).1 hk)
    rw [look,hy]
    have : ∀ (es : List (List UInt8 × Vl)),(∀ p ∈ es,p.2.Ok) → fnd k es = some y → y.Ok := by
      intro es
      induction es with
      | nil => intro _ h; cases h
      | cons p es ih =>
        intro ho h
        rw [fnd] at h
        split at h
        · cases h; exact ho p List.mem_cons_self
        · exact ih (fun q hq => ho q (List.mem_cons_of_mem _ hq)) h
    exact this es h4 hy
  | _ => simp [Vl.items] at hx
theorem items_len {v : Vl} (h : v.Ok) : v.items.length * 16 ≤ 100000000000000 := by
  cases h with
  | list l h1 h2 => exact h1
  | map es h1 h2 h3 h4 => rw [Vl.items,List.length_map,kys_length]; exact h1
  | _ => simp [Vl.items]
theorem nodr_lec {H G : AH} {g : Nat} (hg : H g = some .nodr) (hl : H.lec G) : G g = some .nodr := hl _ _ hg (by intros; simp)
end Go.Proofs.YtkldmgnhbomknaaGreat
namespace Go.Proofs.YtkldmgnhbomknaaGreat
open Go.Vm Go.Sort
attribute [local go_sem] eq_self decide_true decide_false AH.put_ne
attribute [local go_sem_proc] Nat.reduceBEq Nat.reduceAdd Nat.reduceSub Nat.reduceMul Nat.reduceEqDiff Nat.reduceLeDiff Nat.reduceLT Int.reduceLE Int.reduceLT Int.reduceToNat Int.reduceAdd Int.reduceEq Int.reduceNeg
attribute [local go_sem] List.drop_zero toNat_succ Nat.sub_zero Int.toNat_natCast Option.map_some Int.natCast_nonneg decide_eq_true_eq decide_eq_false_iff_not
/- (flange/value.Value).Deep -/
abbrev k85_0 : MC :=
 .reg [
 mv 13 3,
 vl 14 (.load true 1 (.t 5)),
 ⟨some 15,none,.call 85 [(.t 14)]⟩,
 vl 16 (.mx true (.t 13) (.t 15)),
 mv 3 16] [3,7,8,9]
abbrev k85_1 : MC :=
 .reg [
 vl 17 (.bin .add .num (.t 9) (.c (.int .i64 1))),
 mv 9 17] [3,7,8,9]
abbrev k85_2 : MC :=
 (.seq (.block 1 ((.seq (.reg [
 vl 11 (.iaddr 1 (.t 7) (.t 9)),
 vl 12 (.load true 1 (.t 11)),
 ⟨some 5,none,.zalloc [.nilIface]⟩,
 ⟨none,none,.store 1 (.t 5) (.t 12)⟩] [3,5,7,8,9]) k85_0))) k85_1)
abbrev k85_3 : MC :=
 (.seq (.cond (.t 10) (.skip) (.exit 0)) k85_2)
abbrev k85_4 : MC :=
 (.seq (.reg [
 vl 10 (.bin .lss .num (.t 9) (.t 8))] [3,7,8,9,10]) k85_3)
abbrev k85_5 : MC :=
 .block 0 (.loop k85_4)
abbrev k85_6 : MC :=
 (.seq (.reg [
 mv 18 3,
 vl 19 (.bin .add .num (.t 18) (.c (.int .i64 1))),
 mv 2 19] [2]) (.ret))
abbrev k85_7 : MC :=
 (.seq ((.seq (.reg [
 vl 6 (.load true 1 (.t 1)),
 ⟨some 7,none,.call 36 [(.t 6)]⟩,
 vl 8 (.len .sl (.t 7)),
 vl 9 (.mv (.c (.int .i64 0)))] [3,7,8,9]) k85_5)) k85_6)
abbrev k85_8 : MC :=
 (.seq (.reg [
 vl 3 (.mv (.c (.int .i64 0)))] [1,3]) k85_7)
abbrev k85 : MC :=
 (.seq (.reg [
 ⟨some 1,none,.boxi (.t 0)⟩,
 vl 2 (.mv (.c (.int .i64 0)))] [1]) k85_8)
theorem c85 : Tryz.f85.body.bind (mcOf Tryz.prog (List.contains [1] ·) (List.getD [([],[1]),([],[1,3]),([],[3,7,8,9]),([],[3,7,8,9,10]),([],[3,5,7,8,9]),([],[3,7,8,9]),([],[3,7,8,9]),([],[2])] · ([],[])) 20) = some k85 := by kernel_rfl
theorem r85 : rvsOf Tryz.prog Tryz.f85.results.toList = some [.tmp 2] := by kernel_rfl
theorem vdeep_calls : ∀ (m : Rv) (v : Vl),Sm v m → v.Ok → ∀ (g : Nat) (H : AH),H g = some .nodr → ACalls Tryz.prog 85 [.agg [vV v]] H (fun o H' => o = .ret (.int .i64 (deepI m)) ∧ H' = H) := by
  refine Rv.ind fun m ih v hs ho g H hg => ?_
  refine ACalls.drop ?_
  have hil := items_len ho
  cases hs with
  | mk _ _ hK hB hS hl hk hN hP hi =>
  refine acalls Tryz.func85 c85 r85 (by simp [Tryz.ntmps85]) ?_
  repeat' (first|with_reducible refine go0 ?_|(with_reducible refine am_cnd ?_ ?_<;>intro hc<;>try (exfalso;omega))|((first|with_reducible (first|refine go1 ?_|refine vc_intro ?_|refine need_el ?_|refine vlen_a ?_|refine need_by ?_|refine call_of (items_calls ho hg) ?_|refine qcall_of (items_calls ho hg) ?_|refine call_turn (items_calls ho hg) ?_|refine need_lk ?_)|((with_reducible refine alloc_intro (fun ko hko=>?_))<;>(try have hne:=fresh_ne (by assumption) hko)<;>(try have hnk:=fresh_ne hk hko)<;>(try simp only [AH.put_none] at hko))|done)<;>(try simp -implicitDefEqProofs (disch:=omega) only [go_sem,vE_length])))
  refine am_loop (fun n a H' => ∃ i : Nat,i + n = m.L.length ∧ a = [(3,.int .i64 (deepL (m.L.take i))),(7,.sl 1 (vE v.items) .no),(8,.int .i64 v.items.length),(9,.int .i64 i)] ∧ H' g = some .nodr ∧ H.le H') ?_ m.L.length ⟨0,by omega,rfl,hg,AH.le_refl _⟩
  rintro n a H' ⟨i,hin,rfl,hg',hle⟩
  by_cases hlt : i < m.L.length
  · have hlt1 : i < v.items.length := by omega
    have hc1 := ih m.L[i] (List.getElem_mem hlt) v.items[i] (hi i hlt1 hlt) (Ok.items ho _ (List.getElem_mem hlt1))
    repeat' (first|with_reducible refine go0 ?_|(with_reducible refine am_cnd ?_ ?_<;>intro hc<;>try (exfalso;omega))|((first|with_reducible (first|refine go1 ?_|refine vc_intro ?_|refine need_el ?_|refine vlen_a ?_|refine need_by ?_|refine call_turn (hc1 _ _ (look_put hg' hko)) ?_|refine need_lk ?_)|((with_reducible refine alloc_intro (fun ko hko=>?_))<;>(try have hne:=fresh_ne (by assumption) hko)<;>(try have hnk:=fresh_ne hk hko)<;>(try simp only [AH.put_none] at hko))|done)<;>(try simp -implicitDefEqProofs (disch:=omega) only [go_sem,wrap_id,hl,vE_length,vE_get hlt1])))
    all_goals exact ⟨n - 1,by omega,i + 1,by omega,by rw [deepL_take hlt]; rfl,by first | exact hg' | exact look_put hg' hko,AH.le_put hle (none_of_le hle hko) _⟩
  · have e : m.L.take i = m.L := List.take_of_length_le (by omega)
    repeat' (first|with_reducible refine go0 ?_|(with_reducible refine am_cnd ?_ ?_<;>intro hc<;>try (exfalso;omega))|((first|with_reducible (first|refine go1 ?_|refine vc_intro ?_|refine need_el ?_|refine vlen_a ?_|refine need_by ?_|refine need_lk ?_)|((with_reducible refine alloc_intro (fun ko hko=>?_))<;>(try have hne:=fresh_ne (by assumption) hko)<;>(try have hnk:=fresh_ne hk hko)<;>(try simp only [AH.put_none] at hko))|done)<;>(try simp -implicitDefEqProofs (disch:=omega) only [go_sem,wrap_id,vE_length,hl,e])))
    all_goals (rw [deepI_eq]; (refine drop_end (by (first | exact fun _ _ h => h | (intro s x h; first | exact no_sub _ h | exact nil_no _ h | exact AccP.sub (by assumption) _ _ h | (refine agg_sub rfl ?_ x h; repeat (first | exact .nil | refine .cons (fun _ h => h) ?_ | refine .cons (fun _ h => nil_no _ h) ?_ | refine .cons (fun _ h => no_sub _ h) ?_ | refine .cons (fun _ h => AccP.sub (by assumption) _ _ h) ?_)) | (refine tuple_sub ?_ x h; repeat (first | exact .nil | refine .cons (fun _ h => h) ?_ | refine .cons (fun _ h => nil_no _ h) ?_ | refine .cons (fun _ h => no_sub _ h) ?_ | refine .cons (fun _ h => AccP.sub (by assumption) _ _ h) ?_ | refine .cons (fun _ h => agg_sub rfl (by repeat (first | exact .nil | refine .cons (fun _ h => h) ?_ | refine .cons (fun _ h => nil_no _ h) ?_ | refine .cons (fun _ h => no_sub _ h) ?_ | refine .cons (fun _ h => AccP.sub (by assumption) _ _ h) ?_)) _ h) ?_))))) (by (repeat (first | exact AH.le_refl _ | assumption | exact AccP.le (by assumption) | refine AH.le_put ?_ (by first | assumption | exact none_of_le (by assumption) (by assumption) | exact And.right (by assumption) | exact And.right (And.right (by assumption))) _ | refine AH.le_trans ?_ (AccP.le (by assumption)))))))
theorem all_take {α : Type} {p : α → Bool} {l : List α} {i : Nat} (h : i < l.length) : (l.take (i + 1)).all p = ((l.take i).all p && p l[i]) := by
  rw [List.take_succ_eq_append_getElem h,List.all_append]; simp
theorem all_bad {α : Type} {p : α → Bool} {l : List α} {i : Nat} (h : i < l.length) (hp : p l[i] = false) : l.all p = false := by
  rw [List.all_eq_false]; exact ⟨l[i],List.getElem_mem h,by rw [hp]; simp⟩
def allM (q : Rv → Bool) : Rv → Bool
  | .mk K B N M S L Ks => q (.mk K B N M S L Ks) && (L.map fun x => allM q x).all id
termination_by r => SizeOf.sizeOf r
decreasing_by
  have := List.sizeOf_lt_of_mem ‹_ ∈ L›; simp only [Rv.mk.sizeOf_spec]; omega
theorem allM_eq (q : Rv → Bool) (r : Rv) : allM q r = (q r && r.L.all (allM q)) := by cases r; rw [allM,List.all_map]; rfl
def shortB (k : List UInt8) : Bool := decide (k.length ≤ 256)
def fitsQ (r : Rv) : Bool := shortB r.S && r.Keys.all shortB && decide (r.L.length ≤ 64)
def rightM (m : Rv) : Bool := decide (deepI m ≤ 8) && allM fitsQ m
end Go.Proofs.YtkldmgnhbomknaaGreat
namespace Go.Proofs.YtkldmgnhbomknaaGreat
open Go.Vm Go.Sort
attribute [local go_sem] eq_self decide_true decide_false AH.put_ne
attribute [local go_sem_proc] Nat.reduceBEq Nat.reduceAdd Nat.reduceSub Nat.reduceMul Nat.reduceEqDiff Nat.reduceLeDiff Nat.reduceLT Int.reduceLE Int.reduceLT Int.reduceToNat Int.reduceAdd Int.reduceEq Int.reduceNeg
attribute [local go_sem] List.drop_zero toNat_succ Nat.sub_zero Int.toNat_natCast Option.map_some Int.natCast_nonneg decide_eq_true_eq decide_eq_false_iff_not
/- flange/value.short -/
abbrev k106_0 : MC :=
 (.seq (.reg [
 mv 3 0,
 vl 4 (.len .str (.t 3)),
 vl 5 (.bin .leq .num (.t 4) (.c (.int .i64 256))),
 mv 2 5] [2]) (.ret))
abbrev k106 : MC :=
 (.seq (.reg [
 vl 2 (.mv (.c (.bool false)))] [0]) k106_0)
theorem c106 : Tryz.f106.body.bind (mcOf Tryz.prog (List.contains [] ·) (List.getD [([],[0]),([],[2])] · ([],[])) 6) = some k106 := by kernel_rfl
theorem r106 : rvsOf Tryz.prog Tryz.f106.results.toList = some [.tmp 2] := by kernel_rfl
/- (flange/value.Value).fits$1 -/
abbrev k105_0 : MC :=
 (.seq (.reg [
 mv 3 0,
 ⟨some 4,none,.call 106 [(.t 3)]⟩,
 vl 5 (.not (.t 4)),
 mv 2 5] [2]) (.ret))
abbrev k105 : MC :=
 (.seq (.reg [
 vl 2 (.mv (.c (.bool false)))] [0]) k105_0)
theorem c105 : Tryz.f105.body.bind (mcOf Tryz.prog (List.contains [] ·) (List.getD [([],[0]),([],[2])] · ([],[])) 6) = some k105 := by kernel_rfl
theorem r105 : rvsOf Tryz.prog Tryz.f105.results.toList = some [.tmp 2] := by kernel_rfl
/- slices.ContainsFunc[[]string,string] -/
abbrev k104_0 : MC :=
 (.seq (.reg [
 mv 5 0,
 mv 6 1,
 ⟨some 7,none,.call 122 [(.t 5),(.t 6)]⟩,
 vl 8 (.bin .geq .num (.t 7) (.c (.int .i64 0))),
 mv 4 8] [4]) (.ret))
abbrev k104 : MC :=
 (.seq (.reg [
 vl 4 (.mv (.c (.bool false)))] [0,1]) k104_0)
theorem c104 : Tryz.f104.body.bind (mcOf Tryz.prog (List.contains [] ·) (List.getD [([],[0,1]),([],[4])] · ([],[])) 9) = some k104 := by kernel_rfl
theorem r104 : rvsOf Tryz.prog Tryz.f104.results.toList = some [.tmp 4] := by kernel_rfl
/- slices.IndexFunc[[]string,string] -/
abbrev k122_0 : MC :=
 .cond (.t 16) ((.seq (.reg [
 mv 17 5,
 mv 4 17] [4]) (.ret))) (.skip)
abbrev k122_1 : MC :=
 (.seq (.reg [
 mv 11 1,
 mv 12 0,
 mv 13 5,
 vl 14 (.iaddr 1 (.t 12) (.t 13)),
 vl 15 (.load false 1 (.t 14)),
 ⟨some 16,none,.callv (.t 11) [(.t 15)]⟩] [0,1,5,7,8,16]) k122_0)
abbrev k122_2 : MC :=
 .reg [
 vl 18 (.bin .add .num (.t 8) (.c (.int .i64 1))),
 mv 8 18] [0,1,7,8]
abbrev k122_3 : MC :=
 (.seq (.block 1 ((.seq (.reg [
 mv 10 8,
 mv 5 10] [0,1,5,7,8]) k122_1))) k122_2)
abbrev k122_4 : MC :=
 (.seq (.cond (.t 9) (.skip) (.exit 0)) k122_3)
abbrev k122_5 : MC :=
 (.seq (.reg [
 vl 9 (.bin .lss .num (.t 8) (.t 7))] [0,1,7,8,9]) k122_4)
abbrev k122_6 : MC :=
 .block 0 (.loop k122_5)
abbrev k122_7 : MC :=
 (.seq (.reg [
 vl 4 (.mv (.c (.int .i64 (-1))))] [4]) (.ret))
abbrev k122_8 : MC :=
 (.seq ((.seq (.reg [
 mv 6 0,
 vl 7 (.len .sl (.t 6)),
 vl 8 (.mv (.c (.int .i64 0)))] [0,1,7,8]) k122_6)) k122_7)
abbrev k122 : MC :=
 (.seq (.reg [
 vl 4 (.mv (.c (.int .i64 0)))] [0,1]) k122_8)
theorem c122 : Tryz.f122.body.bind (mcOf Tryz.prog (List.contains [] ·) (List.getD [([],[0,1]),([],[0,1,7,8]),([],[0,1,7,8,9]),([],[0,1,5,7,8]),([],[0,1,5,7,8,16]),([],[4]),([],[0,1,7,8]),([],[4])] · ([],[])) 19) = some k122 := by kernel_rfl
theorem r122 : rvsOf Tryz.prog Tryz.f122.results.toList = some [.tmp 4] := by kernel_rfl
/- (flange/value.Value).fits -/
abbrev k87_0 : MC :=
 (.seq (.reg [
 mv 14 3,
 ⟨some 15,none,.call 106 [(.t 14)]⟩,
 mv 16 15,
 ⟨some 17,(some (16,true)),.val (.mv (.t 5))⟩,
 ⟨some 18,(some (16,true)),.val (.not (.t 17))⟩,
 vl 19 (.pick (.t 16) (.t 18) (.c (.bool false))),
 mv 20 19,
 ⟨some 21,(some (20,true)),.val (.load true 1 (.t 1))⟩,
 ⟨some 22,(some (20,true)),.call 36 [(.t 21)]⟩,
 ⟨some 23,(some (20,true)),.val (.len .sl (.t 22))⟩,
 ⟨some 24,(some (20,true)),.val (.bin .leq .num (.t 23) (.c (.int .i64 64)))⟩,
 vl 25 (.pick (.t 20) (.t 24) (.c (.bool false))),
 mv 2 25] [2]) (.ret))
abbrev k87_1 : MC :=
 (.seq (.reg [
 vl 11 (.load true 1 (.t 1)),
 ⟨some 12,none,.call 37 [(.t 11)]⟩,
 ⟨some 13,none,.call 104 [(.t 12),(.c (.func (.func 105) [] []))]⟩,
 mv 5 13] [1,3,5]) k87_0)
abbrev k87_2 : MC :=
 (.seq (.reg [
 vl 7 (.load true 1 (.t 1)),
 ⟨some 8,none,.call 35 [(.t 7)]⟩,
 mv 6 8,
 vl 9 (.ext (.t 6) 0),
 vl 10 (.ext (.t 6) 1),
 mv 3 9,
 mv 4 10] [1,3]) k87_1)
abbrev k87 : MC :=
 (.seq (.reg [
 ⟨some 1,none,.boxi (.t 0)⟩,
 vl 2 (.mv (.c (.bool false)))] [1]) k87_2)
theorem c87 : Tryz.f87.body.bind (mcOf Tryz.prog (List.contains [1] ·) (List.getD [([],[1]),([],[1,3]),([],[1,3,5]),([],[2])] · ([],[])) 26) = some k87 := by kernel_rfl
theorem r87 : rvsOf Tryz.prog Tryz.f87.results.toList = some [.tmp 2] := by kernel_rfl
def ff : List Bool → Option Nat
  | [] => none
  | b :: l => if b then (ff l).map (· + 1) else some 0
def ffI (l : List Bool) : Int := ((ff l).map fun (i : Nat) => (i : Int)).getD (-1)
theorem ffI_all (l : List Bool) : 0 ≤ ffI l ↔ l.all id = false := by
  have : ∀ l,(ff l).isSome = true ↔ l.all id = false := by
    intro l
    induction l with
    | nil => simp [ff]
    | cons b l ih => cases b <;> simp [ff,ih]
  rw [← this l,ffI]
  cases ff l <;> simp
theorem short_calls (k : List UInt8) (H : AH) : ACalls Tryz.prog 106 [.str k] H (fun o H' => o = .ret (.bool (shortB k)) ∧ H' = H) := by
  refine ACalls.drop ?_
  refine acalls Tryz.func106 c106 r106 (by simp [Tryz.ntmps106]) ?_
  repeat' (first|with_reducible refine go0 ?_|(with_reducible refine am_cnd ?_ ?_<;>intro hc<;>try (exfalso;omega))|((first|with_reducible (first|refine go1 ?_|refine vc_intro ?_|refine need_el ?_|refine vlen_a ?_|refine need_by ?_|refine need_lk ?_)|done)<;>(try simp -implicitDefEqProofs (disch:=omega) only [go_sem])))
  all_goals refine end_eq (congrArg V.bool ?_) (AH.le_refl _)
  all_goals (rw [shortB,Bool.eq_iff_iff,decide_eq_true_eq,decide_eq_true_eq]; omega)
theorem fits1_calls (k : List UInt8) (H : AH) : ACalls Tryz.prog 105 [.str k] H (fun o H' => o = .ret (.bool (!shortB k)) ∧ H' = H) := by
  refine ACalls.drop ?_
  refine acalls Tryz.func105 c105 r105 (by simp [Tryz.ntmps105]) ?_
  repeat' (first|with_reducible refine go0 ?_|(with_reducible refine am_cnd ?_ ?_<;>intro hc<;>try (exfalso;omega))|((first|with_reducible (first|refine go1 ?_|refine vc_intro ?_|refine need_el ?_|refine vlen_a ?_|refine need_by ?_|refine call_of (short_calls _) ?_|refine qcall_of (short_calls _) ?_|refine need_lk ?_)|done)<;>(try simp -implicitDefEqProofs (disch:=omega) only [go_sem])))
  all_goals (refine drop_end (by (first | exact fun _ _ h => h | (intro s x h; first | exact no_sub _ h | exact nil_no _ h | exact AccP.sub (by assumption) _ _ h | (refine agg_sub rfl ?_ x h; repeat (first | exact .nil | refine .cons (fun _ h => h) ?_ | refine .cons (fun _ h => nil_no _ h) ?_ | refine .cons (fun _ h => no_sub _ h) ?_ | refine .cons (fun _ h => AccP.sub (by assumption) _ _ h) ?_)) | (refine tuple_sub ?_ x h; repeat (first | exact .nil | refine .cons (fun _ h => h) ?_ | refine .cons (fun _ h => nil_no _ h) ?_ | refine .cons (fun _ h => no_sub _ h) ?_ | refine .cons (fun _ h => AccP.sub (by assumption) _ _ h) ?_ | refine .cons (fun _ h => agg_sub rfl (by repeat (first | exact .nil | refine .cons (fun _ h => h) ?_ | refine .cons (fun _ h => nil_no _ h) ?_ | refine .cons (fun _ h => no_sub _ h) ?_ | refine .cons (fun _ h => AccP.sub (by assumption) _ _ h) ?_)) _ h) ?_))))) (by (repeat (first | exact AH.le_refl _ | assumption | exact AccP.le (by assumption) | refine AH.le_put ?_ (by first | assumption | exact none_of_le (by assumption) (by assumption) | exact And.right (by assumption) | exact And.right (And.right (by assumption))) _ | refine AH.le_trans ?_ (AccP.le (by assumption))))))
theorem ent_fits1 : entered Tryz.prog 105 = true := by kernel_rfl
theorem idxs_calls {ks : List (List UInt8)} {t : Tok} (hl : ks.length < 1000000000000000000) (H : AH) : ACalls Tryz.prog 122 [.sl 1 (strE ks) t,.func (.func 105) [] []] H (fun o H' => o = .ret (.int .i64 (ffI (ks.map shortB))) ∧ H' = H) := by
  refine ACalls.drop ?_
  refine acalls Tryz.func122 c122 r122 (by simp [Tryz.ntmps122]) ?_
  repeat' (first|with_reducible refine go0 ?_|(with_reducible refine am_cnd ?_ ?_<;>intro hc<;>try (exfalso;omega))|((first|with_reducible (first|refine go1 ?_|refine vc_intro ?_|refine need_el ?_|refine vlen_a ?_|refine need_by ?_|refine need_lk ?_)|done)<;>(try simp -implicitDefEqProofs (disch:=omega) only [go_sem,strE_len])))
  refine am_loop (fun n a H' => ∃ i : Nat,i + n = ks.length ∧ a = [(0,.sl 1 (strE ks) t),(1,.func (.func 105) [] []),(7,.int .i64 ks.length),(8,.int .i64 i)] ∧ H' = H ∧ ff (ks.map shortB) = (ff ((ks.drop i).map shortB)).map (· + i)) ?_ ks.length ⟨0,by omega,rfl,rfl,by simp⟩
  rintro n a H' ⟨i,hin,rfl,rfl,hd⟩
  by_cases hlt : i < ks.length
  · rw [List.drop_eq_getElem_cons hlt,List.map_cons,ff] at hd
    have hc1 := fits1_calls ks[i]
    cases hs : shortB ks[i] with
    | true =>
      rw [hs] at hd hc1
      repeat' (first|with_reducible refine go0 ?_|(with_reducible refine am_cnd ?_ ?_<;>intro hc<;>try (exfalso;omega))|((first|with_reducible (first|refine go1 ?_|refine vc_intro ?_|refine need_el ?_|refine vlen_a ?_|refine need_by ?_|refine call_of (hc1) ?_|refine qcall_of (hc1) ?_|refine need_lk ?_)|done)<;>(try simp -implicitDefEqProofs (disch:=omega) only [go_sem,wrap_id,strE_len,strE_get hlt,Bool.not_true,ent_fits1,true_and,List.nil_append,List.append_nil,List.cons_append])))
      all_goals exact ⟨n - 1,by omega,i + 1,by omega,rfl,by rw [hd,if_pos rfl,Option.map_map]; congr 1; funext x; simp only [Function.comp]; omega⟩
    | false =>
      rw [hs] at hd hc1
      repeat' (first|with_reducible refine go0 ?_|(with_reducible refine am_cnd ?_ ?_<;>intro hc<;>try (exfalso;omega))|((first|with_reducible (first|refine go1 ?_|refine vc_intro ?_|refine need_el ?_|refine vlen_a ?_|refine need_by ?_|refine call_of (hc1) ?_|refine qcall_of (hc1) ?_|refine need_lk ?_)|done)<;>(try simp -implicitDefEqProofs (disch:=omega) only [go_sem,wrap_id,strE_len,strE_get hlt,Bool.not_false,ent_fits1,true_and,List.nil_append,List.append_nil,List.cons_append])))
      all_goals exact end_eq (by simp [ffI,hd]) (AH.le_refl _)
  · rw [List.drop_eq_nil_of_le (by omega),List.map_nil,ff,Option.map_none] at hd
    repeat' (first|with_reducible refine go0 ?_|(with_reducible refine am_cnd ?_ ?_<;>intro hc<;>try (exfalso;omega))|((first|with_reducible (first|refine go1 ?_|refine vc_intro ?_|refine need_el ?_|refine vlen_a ?_|refine need_by ?_|refine need_lk ?_)|done)<;>(try simp -implicitDefEqProofs (disch:=omega) only [go_sem,strE_len])))
    all_goals exact end_eq (by simp [ffI,hd]) (AH.le_refl _)
theorem cons_calls {ks : List (List UInt8)} {t : Tok} (hl : ks.length < 1000000000000000000) (H : AH) : ACalls Tryz.prog 104 [.sl 1 (strE ks) t,.func (.func 105) [] []] H (fun o H' => o = .ret (.bool (!ks.all shortB)) ∧ H' = H) := by
  refine ACalls.drop ?_
  refine acalls Tryz.func104 c104 r104 (by simp [Tryz.ntmps104]) ?_
  have h := ffI_all (ks.map shortB)
  rw [List.all_map] at h
  have h' : ks.all (id ∘ shortB) = ks.all shortB := rfl
  rw [h'] at h
  cases ha : ks.all shortB with
  | true =>
    have hn : ¬ 0 ≤ ffI (ks.map shortB) := by rw [h,ha]; simp
    repeat' (first|with_reducible refine go0 ?_|(with_reducible refine am_cnd ?_ ?_<;>intro hc<;>try (exfalso;omega))|((first|with_reducible (first|refine go1 ?_|refine vc_intro ?_|refine need_el ?_|refine vlen_a ?_|refine need_by ?_|refine call_of (idxs_calls hl) ?_|refine qcall_of (idxs_calls hl) ?_|refine need_lk ?_)|done)<;>(try simp -implicitDefEqProofs (disch:=omega) only [go_sem,hn])))
    all_goals (refine drop_end (by (first | exact fun _ _ h => h | (intro s x h; first | exact no_sub _ h | exact nil_no _ h | exact AccP.sub (by assumption) _ _ h | (refine agg_sub rfl ?_ x h; repeat (first | exact .nil | refine .cons (fun _ h => h) ?_ | refine .cons (fun _ h => nil_no _ h) ?_ | refine .cons (fun _ h => no_sub _ h) ?_ | refine .cons (fun _ h => AccP.sub (by assumption) _ _ h) ?_)) | (refine tuple_sub ?_ x h; repeat (first | exact .nil | refine .cons (fun _ h => h) ?_ | refine .cons (fun _ h => nil_no _ h) ?_ | refine .cons (fun _ h => no_sub _ h) ?_ | refine .cons (fun _ h => AccP.sub (by assumption) _ _ h) ?_ | refine .cons (fun _ h => agg_sub rfl (by repeat (first | exact .nil | refine .cons (fun _ h => h) ?_ | refine .cons (fun _ h => nil_no _ h) ?_ | refine .cons (fun _ h => no_sub _ h) ?_ | refine .cons (fun _ h => AccP.sub (by assumption) _ _ h) ?_)) _ h) ?_))))) (by (repeat (first | exact AH.le_refl _ | assumption | exact AccP.le (by assumption) | refine AH.le_put ?_ (by first | assumption | exact none_of_le (by assumption) (by assumption) | exact And.right (by assumption) | exact And.right (And.right (by assumption))) _ | refine AH.le_trans ?_ (AccP.le (by assumption))))))
  | false =>
    have hn : 0 ≤ ffI (ks.map shortB) := h.2 ha
    repeat' (first|with_reducible refine go0 ?_|(with_reducible refine am_cnd ?_ ?_<;>intro hc<;>try (exfalso;omega))|((first|with_reducible (first|refine go1 ?_|refine vc_intro ?_|refine need_el ?_|refine vlen_a ?_|refine need_by ?_|refine call_of (idxs_calls hl) ?_|refine qcall_of (idxs_calls hl) ?_|refine need_lk ?_)|done)<;>(try simp -implicitDefEqProofs (disch:=omega) only [go_sem,hn])))
    all_goals (refine drop_end (by (first | exact fun _ _ h => h | (intro s x h; first | exact no_sub _ h | exact nil_no _ h | exact AccP.sub (by assumption) _ _ h | (refine agg_sub rfl ?_ x h; repeat (first | exact .nil | refine .cons (fun _ h => h) ?_ | refine .cons (fun _ h => nil_no _ h) ?_ | refine .cons (fun _ h => no_sub _ h) ?_ | refine .cons (fun _ h => AccP.sub (by assumption) _ _ h) ?_)) | (refine tuple_sub ?_ x h; repeat (first | exact .nil | refine .cons (fun _ h => h) ?_ | refine .cons (fun _ h => nil_no _ h) ?_ | refine .cons (fun _ h => no_sub _ h) ?_ | refine .cons (fun _ h => AccP.sub (by assumption) _ _ h) ?_ | refine .cons (fun _ h => agg_sub rfl (by repeat (first | exact .nil | refine .cons (fun _ h => h) ?_ | refine .cons (fun _ h => nil_no _ h) ?_ | refine .cons (fun _ h => no_sub _ h) ?_ | refine .cons (fun _ h => AccP.sub (by assumption) _ _ h) ?_)) _ h) ?_))))) (by (repeat (first | exact AH.le_refl _ | assumption | exact AccP.le (by assumption) | refine AH.le_put ?_ (by first | assumption | exact none_of_le (by assumption) (by assumption) | exact And.right (by assumption) | exact And.right (And.right (by assumption))) _ | refine AH.le_trans ?_ (AccP.le (by assumption))))))
theorem keys_len {v : Vl} (h : v.Ok) : v.keys.length * 16 ≤ 100000000000000 := by
  cases h with
  | map es h1 h2 h3 h4 => rw [Vl.keys,kys_length]; exact h1
  | _ => simp [Vl.keys]
theorem fits_calls {m : Rv} {v : Vl} (hs : Sm v m) (ho : v.Ok) {g : Nat} {H : AH} (hg : H g = some .nodr) : ACalls Tryz.prog 87 [.agg [vV v]] H (fun o H' => o = .ret (.bool (fitsQ m)) ∧ H' = H) := by
  refine ACalls.drop ?_
  have hkl := keys_len ho
  cases hs with
  | mk _ _ hK hB hS hl hk hN hP hi =>
  have h3 := short_calls v.isT.1
  have h4 := cons_calls (ks := v.keys) (t := .no) (by omega)
  rw [hS] at h3
  unfold fitsQ
  refine acalls Tryz.func87 c87 r87 (by simp [Tryz.ntmps87]) ?_
  cases hq : shortB m.S with
  | false =>
    rw [hq] at h3
    repeat' (first|with_reducible refine go0 ?_|(with_reducible refine am_cnd ?_ ?_<;>intro hc<;>try (exfalso;omega))|((first|with_reducible (first|refine go1 ?_|refine vc_intro ?_|refine need_el ?_|refine vlen_a ?_|refine need_by ?_|refine call_of (text_calls v) ?_|refine qcall_of (text_calls v) ?_|refine call_turn (keys_calls ho hg) ?_|refine call_of (h3) ?_|refine qcall_of (h3) ?_|refine call_of (h4) ?_|refine qcall_of (h4) ?_|refine call_turn (items_calls ho hg) ?_|refine need_lk ?_)|((with_reducible (first|apply gd_not|apply gd_of|apply gq_not|apply gq_of|apply pickB_of))<;>intro hc<;>(try simp -implicitDefEqProofs (disch:=omega) only [go_sem,hc,hS,vE_length,Bool.not_true,Bool.not_false])<;>(try simp only [reduceCtorEq,bD,beq_iff_eq] at hc)<;>(try (exfalso;omega)))|((with_reducible refine alloc_intro (fun ko hko=>?_))<;>(try have hne:=fresh_ne (by assumption) hko)<;>(try have hnk:=fresh_ne hk hko)<;>(try simp only [AH.put_none] at hko))|done)<;>(try simp -implicitDefEqProofs (disch:=omega) only [go_sem,hS,vE_length,Bool.not_true,Bool.not_false])))
    all_goals (refine drop_end (by (first | exact fun _ _ h => h | (intro s x h; first | exact no_sub _ h | exact nil_no _ h | exact AccP.sub (by assumption) _ _ h | (refine agg_sub rfl ?_ x h; repeat (first | exact .nil | refine .cons (fun _ h => h) ?_ | refine .cons (fun _ h => nil_no _ h) ?_ | refine .cons (fun _ h => no_sub _ h) ?_ | refine .cons (fun _ h => AccP.sub (by assumption) _ _ h) ?_)) | (refine tuple_sub ?_ x h; repeat (first | exact .nil | refine .cons (fun _ h => h) ?_ | refine .cons (fun _ h => nil_no _ h) ?_ | refine .cons (fun _ h => no_sub _ h) ?_ | refine .cons (fun _ h => AccP.sub (by assumption) _ _ h) ?_ | refine .cons (fun _ h => agg_sub rfl (by repeat (first | exact .nil | refine .cons (fun _ h => h) ?_ | refine .cons (fun _ h => nil_no _ h) ?_ | refine .cons (fun _ h => no_sub _ h) ?_ | refine .cons (fun _ h => AccP.sub (by assumption) _ _ h) ?_)) _ h) ?_))))) (by (repeat (first | exact AH.le_refl _ | assumption | exact AccP.le (by assumption) | refine AH.le_put ?_ (by first | assumption | exact none_of_le (by assumption) (by assumption) | exact And.right (by assumption) | exact And.right (And.right (by assumption))) _ | refine AH.le_trans ?_ (AccP.le (by assumption))))))
  | true =>
    rw [hq] at h3
    rw [hk] at h4
    cases hr : m.Keys.all shortB with
    | false =>
      rw [hr] at h4
      repeat' (first|with_reducible refine go0 ?_|(with_reducible refine am_cnd ?_ ?_<;>intro hc<;>try (exfalso;omega))|((first|with_reducible (first|refine go1 ?_|refine vc_intro ?_|refine need_el ?_|refine vlen_a ?_|refine need_by ?_|refine call_of (text_calls v) ?_|refine qcall_of (text_calls v) ?_|refine call_turn (keys_calls ho hg) ?_|refine call_of (h3) ?_|refine qcall_of (h3) ?_|refine call_of (h4) ?_|refine qcall_of (h4) ?_|refine call_turn (items_calls ho hg) ?_|refine need_lk ?_)|((with_reducible (first|apply gd_not|apply gd_of|apply gq_not|apply gq_of|apply pickB_of))<;>intro hc<;>(try simp -implicitDefEqProofs (disch:=omega) only [go_sem,hc,hS,hk,vE_length,Bool.not_true,Bool.not_false])<;>(try simp only [reduceCtorEq,bD,beq_iff_eq] at hc)<;>(try (exfalso;omega)))|((with_reducible refine alloc_intro (fun ko hko=>?_))<;>(try have hne:=fresh_ne (by assumption) hko)<;>(try have hnk:=fresh_ne hk hko)<;>(try simp only [AH.put_none] at hko))|done)<;>(try simp -implicitDefEqProofs (disch:=omega) only [go_sem,hS,hk,vE_length,Bool.not_true,Bool.not_false])))
      all_goals (refine drop_end (by (first | exact fun _ _ h => h | (intro s x h; first | exact no_sub _ h | exact nil_no _ h | exact AccP.sub (by assumption) _ _ h | (refine agg_sub rfl ?_ x h; repeat (first | exact .nil | refine .cons (fun _ h => h) ?_ | refine .cons (fun _ h => nil_no _ h) ?_ | refine .cons (fun _ h => no_sub _ h) ?_ | refine .cons (fun _ h => AccP.sub (by assumption) _ _ h) ?_)) | (refine tuple_sub ?_ x h; repeat (first | exact .nil | refine .cons (fun _ h => h) ?_ | refine .cons (fun _ h => nil_no _ h) ?_ | refine .cons (fun _ h => no_sub _ h) ?_ | refine .cons (fun _ h => AccP.sub (by assumption) _ _ h) ?_ | refine .cons (fun _ h => agg_sub rfl (by repeat (first | exact .nil | refine .cons (fun _ h => h) ?_ | refine .cons (fun _ h => nil_no _ h) ?_ | refine .cons (fun _ h => no_sub _ h) ?_ | refine .cons (fun _ h => AccP.sub (by assumption) _ _ h) ?_)) _ h) ?_))))) (by (repeat (first | exact AH.le_refl _ | assumption | exact AccP.le (by assumption) | refine AH.le_put ?_ (by first | assumption | exact none_of_le (by assumption) (by assumption) | exact And.right (by assumption) | exact And.right (And.right (by assumption))) _ | refine AH.le_trans ?_ (AccP.le (by assumption))))))
    | true =>
      rw [hr] at h4
      repeat' (first|with_reducible refine go0 ?_|(with_reducible refine am_cnd ?_ ?_<;>intro hc<;>try (exfalso;omega))|((first|with_reducible (first|refine go1 ?_|refine vc_intro ?_|refine need_el ?_|refine vlen_a ?_|refine need_by ?_|refine call_of (text_calls v) ?_|refine qcall_of (text_calls v) ?_|refine call_turn (keys_calls ho hg) ?_|refine call_of (h3) ?_|refine qcall_of (h3) ?_|refine call_of (h4) ?_|refine qcall_of (h4) ?_|refine call_turn (items_calls ho hg) ?_|refine need_lk ?_)|((with_reducible (first|apply gd_not|apply gd_of|apply gq_not|apply gq_of|apply pickB_of))<;>intro hc<;>(try simp -implicitDefEqProofs (disch:=omega) only [go_sem,hc,hS,hk,hl,vE_length,Bool.not_true,Bool.not_false])<;>(try simp only [reduceCtorEq,bD,beq_iff_eq] at hc)<;>(try (exfalso;omega)))|((with_reducible refine alloc_intro (fun ko hko=>?_))<;>(try have hne:=fresh_ne (by assumption) hko)<;>(try have hnk:=fresh_ne hk hko)<;>(try simp only [AH.put_none] at hko))|done)<;>(try simp -implicitDefEqProofs (disch:=omega) only [go_sem,hS,hk,hl,vE_length,Bool.not_true,Bool.not_false])))
      all_goals refine end_eq (congrArg V.bool ?_) (AH.le_refl _)
      all_goals (rw [Bool.true_and,Bool.true_and,Bool.eq_iff_iff,decide_eq_true_eq,decide_eq_true_eq]; omega)
end Go.Proofs.YtkldmgnhbomknaaGreat
namespace Go.Proofs.YtkldmgnhbomknaaGreat
open Go.Vm Go.Sort
attribute [local go_sem] eq_self decide_true decide_false AH.put_ne
attribute [local go_sem_proc] Nat.reduceBEq Nat.reduceAdd Nat.reduceSub Nat.reduceMul Nat.reduceEqDiff Nat.reduceLeDiff Nat.reduceLT Int.reduceLE Int.reduceLT Int.reduceToNat Int.reduceAdd Int.reduceEq Int.reduceNeg
attribute [local go_sem] List.drop_zero toNat_succ Nat.sub_zero Int.toNat_natCast Option.map_some Int.natCast_nonneg decide_eq_true_eq decide_eq_false_iff_not
/- (flange/value.Value).each -/
abbrev k86_0 : MC :=
 (.seq (.reg [
 vl 5 (.load false 1 (.t 3)),
 vl 6 (.load true 1 (.t 2)),
 ⟨some 7,none,.callv (.t 5) [(.t 6)]⟩,
 mv 8 7,
 ⟨some 9,(some (8,true)),.val (.load true 1 (.t 2))⟩,
 ⟨some 10,(some (8,true)),.call 36 [(.t 9)]⟩,
 ⟨some 11,(some (8,true)),.val (.mkfn (.func 103) [] [(.t 3)])⟩,
 ⟨some 12,(some (8,true)),.call 102 [(.t 10),(.t 11)]⟩,
 ⟨some 13,(some (8,true)),.val (.not (.t 12))⟩,
 vl 14 (.pick (.t 8) (.t 13) (.c (.bool false))),
 mv 4 14] [4]) (.ret))
abbrev k86 : MC :=
 (.seq (.reg [
 ⟨some 2,none,.boxi (.t 0)⟩,
 ⟨some 3,none,.box (.t 1)⟩,
 vl 4 (.mv (.c (.bool false)))] [2,3]) k86_0)
theorem c86 : Tryz.f86.body.bind (mcOf Tryz.prog (List.contains [2] ·) (List.getD [([],[2,3]),([],[4])] · ([],[])) 15) = some k86 := by kernel_rfl
theorem r86 : rvsOf Tryz.prog Tryz.f86.results.toList = some [.tmp 4] := by kernel_rfl
/- (flange/value.Value).each$1 -/
abbrev k103_0 : MC :=
 (.seq (.reg [
 vl 4 (.load true 1 (.t 2)),
 vl 5 (.load false 1 (.t 1)),
 ⟨some 6,none,.call 86 [(.t 4),(.t 5)]⟩,
 vl 7 (.not (.t 6)),
 mv 3 7] [3]) (.ret))
abbrev k103 : MC :=
 (.seq (.reg [
 ⟨some 2,none,.boxi (.t 0)⟩,
 vl 3 (.mv (.c (.bool false)))] [1,2]) k103_0)
theorem c103 : Tryz.f103.body.bind (mcOf Tryz.prog (List.contains [2] ·) (List.getD [([],[1,2]),([],[3])] · ([],[])) 8) = some k103 := by kernel_rfl
theorem r103 : rvsOf Tryz.prog Tryz.f103.results.toList = some [.tmp 3] := by kernel_rfl
/- slices.ContainsFunc[[]flange/value.Value,flange/value.Value] -/
abbrev k102_0 : MC :=
 (.seq (.reg [
 mv 5 0,
 mv 6 1,
 ⟨some 7,none,.call 121 [(.t 5),(.t 6)]⟩,
 vl 8 (.bin .geq .num (.t 7) (.c (.int .i64 0))),
 mv 4 8] [4]) (.ret))
abbrev k102 : MC :=
 (.seq (.reg [
 vl 4 (.mv (.c (.bool false)))] [0,1]) k102_0)
theorem c102 : Tryz.f102.body.bind (mcOf Tryz.prog (List.contains [] ·) (List.getD [([],[0,1]),([],[4])] · ([],[])) 9) = some k102 := by kernel_rfl
theorem r102 : rvsOf Tryz.prog Tryz.f102.results.toList = some [.tmp 4] := by kernel_rfl
/- slices.IndexFunc[[]flange/value.Value,flange/value.Value] -/
abbrev k121_0 : MC :=
 .cond (.t 16) ((.seq (.reg [
 mv 17 5,
 mv 4 17] [4]) (.ret))) (.skip)
abbrev k121_1 : MC :=
 (.seq (.reg [
 mv 11 1,
 mv 12 0,
 mv 13 5,
 vl 14 (.iaddr 1 (.t 12) (.t 13)),
 vl 15 (.load true 1 (.t 14)),
 ⟨some 16,none,.callv (.t 11) [(.t 15)]⟩] [0,1,5,7,8,16]) k121_0)
abbrev k121_2 : MC :=
 .reg [
 vl 18 (.bin .add .num (.t 8) (.c (.int .i64 1))),
 mv 8 18] [0,1,7,8]
abbrev k121_3 : MC :=
 (.seq (.block 1 ((.seq (.reg [
 mv 10 8,
 mv 5 10] [0,1,5,7,8]) k121_1))) k121_2)
abbrev k121_4 : MC :=
 (.seq (.cond (.t 9) (.skip) (.exit 0)) k121_3)
abbrev k121_5 : MC :=
 (.seq (.reg [
 vl 9 (.bin .lss .num (.t 8) (.t 7))] [0,1,7,8,9]) k121_4)
abbrev k121_6 : MC :=
 .block 0 (.loop k121_5)
abbrev k121_7 : MC :=
 (.seq (.reg [
 vl 4 (.mv (.c (.int .i64 (-1))))] [4]) (.ret))
abbrev k121_8 : MC :=
 (.seq ((.seq (.reg [
 mv 6 0,
 vl 7 (.len .sl (.t 6)),
 vl 8 (.mv (.c (.int .i64 0)))] [0,1,7,8]) k121_6)) k121_7)
abbrev k121 : MC :=
 (.seq (.reg [
 vl 4 (.mv (.c (.int .i64 0)))] [0,1]) k121_8)
theorem c121 : Tryz.f121.body.bind (mcOf Tryz.prog (List.contains [] ·) (List.getD [([],[0,1]),([],[0,1,7,8]),([],[0,1,7,8,9]),([],[0,1,5,7,8]),([],[0,1,5,7,8,16]),([],[4]),([],[0,1,7,8]),([],[4])] · ([],[])) 19) = some k121 := by kernel_rfl
theorem r121 : rvsOf Tryz.prog Tryz.f121.results.toList = some [.tmp 4] := by kernel_rfl
/- (flange/value.Value).Right -/
abbrev k69_0 : MC :=
 (.seq (.reg [
 vl 3 (.load true 1 (.t 1)),
 ⟨some 4,none,.call 85 [(.t 3)]⟩,
 vl 5 (.bin .leq .num (.t 4) (.c (.int .i64 8))),
 mv 6 5,
 ⟨some 7,(some (6,true)),.val (.load true 1 (.t 1))⟩,
 ⟨some 8,(some (6,true)),.call 86 [(.t 7),(.c (.func (.func 87) [] []))]⟩,
 vl 9 (.pick (.t 6) (.t 8) (.c (.bool false))),
 mv 2 9] [2]) (.ret))
abbrev k69 : MC :=
 (.seq (.reg [
 ⟨some 1,none,.boxi (.t 0)⟩,
 vl 2 (.mv (.c (.bool false)))] [1]) k69_0)
theorem c69 : Tryz.f69.body.bind (mcOf Tryz.prog (List.contains [1] ·) (List.getD [([],[1]),([],[2])] · ([],[])) 10) = some k69 := by kernel_rfl
theorem r69 : rvsOf Tryz.prog Tryz.f69.results.toList = some [.tmp 2] := by kernel_rfl
theorem ent_each1 : entered Tryz.prog 103 = true := by kernel_rfl
section
variable {f : Nat} {q : Rv → Bool}
abbrev EachAt (f : Nat) (q : Rv → Bool) (m : Rv) : Prop := ∀ (v : Vl),Sm v m → v.Ok → ∀ (g : Nat) (H : AH),H g = some .nodr → ACalls Tryz.prog 86 [.agg [vV v],.func (.func f) [] []] H (fun o H' => o = .ret (.bool (allM q m)) ∧ H' = H)
theorem each1_calls {m : Rv} (ih : EachAt f q m) {v : Vl} (hs : Sm v m) (ho : v.Ok) {g kb : Nat} {H : AH} (hg : H g = some .nodr) (hk : H kb = some (.cells [.func (.func f) [] []])) :
    ACalls Tryz.prog 103 [.agg [vV v],.ptr kb 0] H (fun o H' => o = .ret (.bool (!allM q m)) ∧ H' = H) := by
  refine ACalls.drop ?_
  refine acalls Tryz.func103 c103 r103 (by simp [Tryz.ntmps103]) ?_
  repeat' (first|with_reducible refine go0 ?_|(with_reducible refine am_cnd ?_ ?_<;>intro hc<;>try (exfalso;omega))|((first|with_reducible (first|refine go1 ?_|refine vc_intro ?_|refine need_el ?_|refine vlen_a ?_|refine need_by ?_|refine call_turn (ih v hs ho _ _ hg) ?_|refine need_lk ?_)|((with_reducible refine alloc_intro (fun ko hko=>?_))<;>(try have hne:=fresh_ne (by assumption) hko)<;>(try have hnk:=fresh_ne hk hko)<;>(try simp only [AH.put_none] at hko))|done)<;>(try simp -implicitDefEqProofs (disch:=omega) only [go_sem,hk])))
  all_goals (refine drop_end (by (first | exact fun _ _ h => h | (intro s x h; first | exact no_sub _ h | exact nil_no _ h | exact AccP.sub (by assumption) _ _ h | (refine agg_sub rfl ?_ x h; repeat (first | exact .nil | refine .cons (fun _ h => h) ?_ | refine .cons (fun _ h => nil_no _ h) ?_ | refine .cons (fun _ h => no_sub _ h) ?_ | refine .cons (fun _ h => AccP.sub (by assumption) _ _ h) ?_)) | (refine tuple_sub ?_ x h; repeat (first | exact .nil | refine .cons (fun _ h => h) ?_ | refine .cons (fun _ h => nil_no _ h) ?_ | refine .cons (fun _ h => no_sub _ h) ?_ | refine .cons (fun _ h => AccP.sub (by assumption) _ _ h) ?_ | refine .cons (fun _ h => agg_sub rfl (by repeat (first | exact .nil | refine .cons (fun _ h => h) ?_ | refine .cons (fun _ h => nil_no _ h) ?_ | refine .cons (fun _ h => no_sub _ h) ?_ | refine .cons (fun _ h => AccP.sub (by assumption) _ _ h) ?_)) _ h) ?_))))) (by (repeat (first | exact AH.le_refl _ | assumption | exact AccP.le (by assumption) | refine AH.le_put ?_ (by first | assumption | exact none_of_le (by assumption) (by assumption) | exact And.right (by assumption) | exact And.right (And.right (by assumption))) _ | refine AH.le_trans ?_ (AccP.le (by assumption))))))
theorem idxv_calls {m : Rv} {v : Vl} (ih : ∀ x ∈ m.L,EachAt f q x) (hl : v.items.length = m.L.length) (hi : ∀ i (h : i < v.items.length) (h2 : i < m.L.length),Sm v.items[i] m.L[i]) (ho : v.Ok) {g kb : Nat} {H : AH} (hg : H g = some .nodr) (hk : H kb = some (.cells [.func (.func f) [] []])) :
    ACalls Tryz.prog 121 [.sl 1 (vE v.items) .no,.func (.func 103) [] [.ptr kb 0]] H (fun o H' => o = .ret (.int .i64 (ffI (m.L.map (allM q)))) ∧ H' = H) := by
  refine ACalls.drop ?_
  have hil := items_len ho
  refine acalls Tryz.func121 c121 r121 (by simp [Tryz.ntmps121]) ?_
  repeat' (first|with_reducible refine go0 ?_|(with_reducible refine am_cnd ?_ ?_<;>intro hc<;>try (exfalso;omega))|((first|with_reducible (first|refine go1 ?_|refine vc_intro ?_|refine need_el ?_|refine vlen_a ?_|refine need_by ?_|refine need_lk ?_)|done)<;>(try simp -implicitDefEqProofs (disch:=omega) only [go_sem,vE_length])))
  refine am_loop (fun n a H' => ∃ i : Nat,i + n = m.L.length ∧ a = [(0,.sl 1 (vE v.items) .no),(1,.func (.func 103) [] [.ptr kb 0]),(7,.int .i64 v.items.length),(8,.int .i64 i)] ∧ H' = H ∧ ff (m.L.map (allM q)) = (ff ((m.L.drop i).map (allM q))).map (· + i)) ?_ m.L.length ⟨0,by omega,rfl,rfl,by simp⟩
  rintro n a H' ⟨i,hin,rfl,rfl,hd⟩
  by_cases hlt : i < m.L.length
  · have hlt1 : i < v.items.length := by omega
    rw [List.drop_eq_getElem_cons hlt,List.map_cons,ff] at hd
    have hc1 := each1_calls (ih m.L[i] (List.getElem_mem hlt)) (hi i hlt1 hlt) (Ok.items ho _ (List.getElem_mem hlt1)) hg hk
    cases hq : allM q m.L[i] with
    | true =>
      rw [hq] at hd hc1
      repeat' (first|with_reducible refine go0 ?_|(with_reducible refine am_cnd ?_ ?_<;>intro hc<;>try (exfalso;omega))|((first|with_reducible (first|refine go1 ?_|refine vc_intro ?_|refine need_el ?_|refine vlen_a ?_|refine need_by ?_|refine call_turn (hc1) ?_|refine need_lk ?_)|done)<;>(try simp -implicitDefEqProofs (disch:=omega) only [go_sem,wrap_id,hl,vE_length,vE_get hlt1,Bool.not_true,ent_each1,true_and,List.nil_append,List.append_nil,List.cons_append])))
      all_goals exact ⟨n - 1,by omega,i + 1,by omega,rfl,by rw [hd,if_pos rfl,Option.map_map]; congr 1; funext x; simp only [Function.comp]; omega⟩
    | false =>
      rw [hq] at hd hc1
      repeat' (first|with_reducible refine go0 ?_|(with_reducible refine am_cnd ?_ ?_<;>intro hc<;>try (exfalso;omega))|((first|with_reducible (first|refine go1 ?_|refine vc_intro ?_|refine need_el ?_|refine vlen_a ?_|refine need_by ?_|refine call_turn (hc1) ?_|refine need_lk ?_)|done)<;>(try simp -implicitDefEqProofs (disch:=omega) only [go_sem,wrap_id,hl,vE_length,vE_get hlt1,Bool.not_false,ent_each1,true_and,List.nil_append,List.append_nil,List.cons_append])))
      all_goals exact end_eq (by simp [ffI,hd]) (AH.le_refl _)
  · rw [List.drop_eq_nil_of_le (by omega),List.map_nil,ff,Option.map_none] at hd
    repeat' (first|with_reducible refine go0 ?_|(with_reducible refine am_cnd ?_ ?_<;>intro hc<;>try (exfalso;omega))|((first|with_reducible (first|refine go1 ?_|refine vc_intro ?_|refine need_el ?_|refine vlen_a ?_|refine need_by ?_|refine need_lk ?_)|done)<;>(try simp -implicitDefEqProofs (disch:=omega) only [go_sem,vE_length,hl])))
    all_goals exact end_eq (by simp [ffI,hd]) (AH.le_refl _)
theorem conv_calls {m : Rv} {v : Vl} (ih : ∀ x ∈ m.L,EachAt f q x) (hl : v.items.length = m.L.length) (hi : ∀ i (h : i < v.items.length) (h2 : i < m.L.length),Sm v.items[i] m.L[i]) (ho : v.Ok) {g kb : Nat} {H : AH} (hg : H g = some .nodr) (hk : H kb = some (.cells [.func (.func f) [] []])) :
    ACalls Tryz.prog 102 [.sl 1 (vE v.items) .no,.func (.func 103) [] [.ptr kb 0]] H (fun o H' => o = .ret (.bool (!m.L.all (allM q))) ∧ H' = H) := by
  refine ACalls.drop ?_
  have h := ffI_all (m.L.map (allM q))
  rw [List.all_map] at h
  have h' : m.L.all (id ∘ allM q) = m.L.all (allM q) := rfl
  rw [h'] at h
  refine acalls Tryz.func102 c102 r102 (by simp [Tryz.ntmps102]) ?_
  cases ha : m.L.all (allM q) with
  | true =>
    have hn : ¬ 0 ≤ ffI (m.L.map (allM q)) := by rw [h,ha]; simp
    repeat' (first|with_reducible refine go0 ?_|(with_reducible refine am_cnd ?_ ?_<;>intro hc<;>try (exfalso;omega))|((first|with_reducible (first|refine go1 ?_|refine vc_intro ?_|refine need_el ?_|refine vlen_a ?_|refine need_by ?_|refine call_turn (idxv_calls ih hl hi ho hg hk) ?_|refine need_lk ?_)|done)<;>(try simp -implicitDefEqProofs (disch:=omega) only [go_sem,hn])))
    all_goals (refine drop_end (by (first | exact fun _ _ h => h | (intro s x h; first | exact no_sub _ h | exact nil_no _ h | exact AccP.sub (by assumption) _ _ h | (refine agg_sub rfl ?_ x h; repeat (first | exact .nil | refine .cons (fun _ h => h) ?_ | refine .cons (fun _ h => nil_no _ h) ?_ | refine .cons (fun _ h => no_sub _ h) ?_ | refine .cons (fun _ h => AccP.sub (by assumption) _ _ h) ?_)) | (refine tuple_sub ?_ x h; repeat (first | exact .nil | refine .cons (fun _ h => h) ?_ | refine .cons (fun _ h => nil_no _ h) ?_ | refine .cons (fun _ h => no_sub _ h) ?_ | refine .cons (fun _ h => AccP.sub (by assumption) _ _ h) ?_ | refine .cons (fun _ h => agg_sub rfl (by repeat (first | exact .nil | refine .cons (fun _ h => h) ?_ | refine .cons (fun _ h => nil_no _ h) ?_ | refine .cons (fun _ h => no_sub _ h) ?_ | refine .cons (fun _ h => AccP.sub (by assumption) _ _ h) ?_)) _ h) ?_))))) (by (repeat (first | exact AH.le_refl _ | assumption | exact AccP.le (by assumption) | refine AH.le_put ?_ (by first | assumption | exact none_of_le (by assumption) (by assumption) | exact And.right (by assumption) | exact And.right (And.right (by assumption))) _ | refine AH.le_trans ?_ (AccP.le (by assumption))))))
  | false =>
    have hn : 0 ≤ ffI (m.L.map (allM q)) := h.2 ha
    repeat' (first|with_reducible refine go0 ?_|(with_reducible refine am_cnd ?_ ?_<;>intro hc<;>try (exfalso;omega))|((first|with_reducible (first|refine go1 ?_|refine vc_intro ?_|refine need_el ?_|refine vlen_a ?_|refine need_by ?_|refine call_turn (idxv_calls ih hl hi ho hg hk) ?_|refine need_lk ?_)|done)<;>(try simp -implicitDefEqProofs (disch:=omega) only [go_sem,hn])))
    all_goals (refine drop_end (by (first | exact fun _ _ h => h | (intro s x h; first | exact no_sub _ h | exact nil_no _ h | exact AccP.sub (by assumption) _ _ h | (refine agg_sub rfl ?_ x h; repeat (first | exact .nil | refine .cons (fun _ h => h) ?_ | refine .cons (fun _ h => nil_no _ h) ?_ | refine .cons (fun _ h => no_sub _ h) ?_ | refine .cons (fun _ h => AccP.sub (by assumption) _ _ h) ?_)) | (refine tuple_sub ?_ x h; repeat (first | exact .nil | refine .cons (fun _ h => h) ?_ | refine .cons (fun _ h => nil_no _ h) ?_ | refine .cons (fun _ h => no_sub _ h) ?_ | refine .cons (fun _ h => AccP.sub (by assumption) _ _ h) ?_ | refine .cons (fun _ h => agg_sub rfl (by repeat (first | exact .nil | refine .cons (fun _ h => h) ?_ | refine .cons (fun _ h => nil_no _ h) ?_ | refine .cons (fun _ h => no_sub _ h) ?_ | refine .cons (fun _ h => AccP.sub (by assumption) _ _ h) ?_)) _ h) ?_))))) (by (repeat (first | exact AH.le_refl _ | assumption | exact AccP.le (by assumption) | refine AH.le_put ?_ (by first | assumption | exact none_of_le (by assumption) (by assumption) | exact And.right (by assumption) | exact And.right (And.right (by assumption))) _ | refine AH.le_trans ?_ (AccP.le (by assumption))))))
theorem each_calls (he : entered Tryz.prog f = true) (hp : ∀ (m : Rv) (v : Vl),Sm v m → v.Ok → ∀ (g : Nat) (H : AH),H g = some .nodr → ACalls Tryz.prog f [.agg [vV v]] H (fun o H' => o = .ret (.bool (q m)) ∧ H' = H)) : ∀ m : Rv,EachAt f q m := by
  refine Rv.ind fun m ih v hs ho g H hg => ?_
  refine ACalls.drop ?_
  have hp1 := hp m v hs ho
  cases hs with
  | mk _ _ hK hB hS hl hk hN hP hi =>
  rw [allM_eq]
  have hcv := fun {kb : Nat} {H : AH} (hg : H g = some .nodr) (hk : H kb = some (.cells [.func (.func f) [] []])) => conv_calls (kb := kb) (H := H) ih hl hi ho hg hk
  refine acalls Tryz.func86 c86 r86 (by simp [Tryz.ntmps86]) ?_
  cases hq : q m with
  | false =>
    rw [hq] at hp1
    repeat' (first|with_reducible refine go0 ?_|(with_reducible refine am_cnd ?_ ?_<;>intro hc<;>try (exfalso;omega))|((first|with_reducible (first|refine go1 ?_|refine vc_intro ?_|refine need_el ?_|refine vlen_a ?_|refine need_by ?_|refine call_turn (hp1 _ _ (look_put hg (by assumption))) ?_|refine need_lk ?_)|((with_reducible (first|apply gd_not|apply gd_of|apply gq_not|apply gq_of|apply pickB_of))<;>intro hc<;>(try simp -implicitDefEqProofs (disch:=omega) only [go_sem,hc,he,true_and,List.nil_append,List.append_nil,List.cons_append,AH.put_same])<;>(try simp only [reduceCtorEq,bD,beq_iff_eq] at hc)<;>(try (exfalso;omega)))|((with_reducible refine alloc_intro (fun ko hko=>?_))<;>(try have hne:=fresh_ne (by assumption) hko)<;>(try have hnk:=fresh_ne hk hko)<;>(try simp only [AH.put_none] at hko))|done)<;>(try simp -implicitDefEqProofs (disch:=omega) only [go_sem,he,true_and,List.nil_append,List.append_nil,List.cons_append,AH.put_same])))
    all_goals exact drop_end (fun _ _ h => h) (AH.le_put (AH.le_refl _) hko _)
  | true =>
    rw [hq] at hp1
    cases ha : m.L.all (allM q) with
    | false =>
      rw [ha] at hcv
      repeat' (first|with_reducible refine go0 ?_|(with_reducible refine am_cnd ?_ ?_<;>intro hc<;>try (exfalso;omega))|((first|with_reducible (first|refine go1 ?_|refine vc_intro ?_|refine need_el ?_|refine vlen_a ?_|refine need_by ?_|refine call_turn (hp1 _ _ (look_put hg (by assumption))) ?_|refine call_turn (items_calls ho (look_put hg (by assumption))) ?_|refine call_turn (hcv (look_put hg (by assumption)) (AH.put_same _ _ _)) ?_|refine need_lk ?_)|((with_reducible (first|apply gd_not|apply gd_of|apply gq_not|apply gq_of|apply pickB_of))<;>intro hc<;>(try simp -implicitDefEqProofs (disch:=omega) only [go_sem,hc,he,true_and,List.nil_append,List.append_nil,List.cons_append,AH.put_same,Bool.not_true,Bool.not_false])<;>(try simp only [reduceCtorEq,bD,beq_iff_eq] at hc)<;>(try (exfalso;omega)))|((with_reducible refine alloc_intro (fun ko hko=>?_))<;>(try have hne:=fresh_ne (by assumption) hko)<;>(try have hnk:=fresh_ne hk hko)<;>(try simp only [AH.put_none] at hko))|done)<;>(try simp -implicitDefEqProofs (disch:=omega) only [go_sem,he,true_and,List.nil_append,List.append_nil,List.cons_append,AH.put_same,Bool.not_true,Bool.not_false])))
      all_goals exact drop_end (fun _ _ h => h) (AH.le_put (AH.le_refl _) hko _)
    | true =>
      rw [ha] at hcv
      repeat' (first|with_reducible refine go0 ?_|(with_reducible refine am_cnd ?_ ?_<;>intro hc<;>try (exfalso;omega))|((first|with_reducible (first|refine go1 ?_|refine vc_intro ?_|refine need_el ?_|refine vlen_a ?_|refine need_by ?_|refine call_turn (hp1 _ _ (look_put hg (by assumption))) ?_|refine call_turn (items_calls ho (look_put hg (by assumption))) ?_|refine call_turn (hcv (look_put hg (by assumption)) (AH.put_same _ _ _)) ?_|refine need_lk ?_)|((with_reducible (first|apply gd_not|apply gd_of|apply gq_not|apply gq_of|apply pickB_of))<;>intro hc<;>(try simp -implicitDefEqProofs (disch:=omega) only [go_sem,hc,he,true_and,List.nil_append,List.append_nil,List.cons_append,AH.put_same,Bool.not_true,Bool.not_false])<;>(try simp only [reduceCtorEq,bD,beq_iff_eq] at hc)<;>(try (exfalso;omega)))|((with_reducible refine alloc_intro (fun ko hko=>?_))<;>(try have hne:=fresh_ne (by assumption) hko)<;>(try have hnk:=fresh_ne hk hko)<;>(try simp only [AH.put_none] at hko))|done)<;>(try simp -implicitDefEqProofs (disch:=omega) only [go_sem,he,true_and,List.nil_append,List.append_nil,List.cons_append,AH.put_same,Bool.not_true,Bool.not_false])))
      all_goals exact drop_end (fun _ _ h => h) (AH.le_put (AH.le_refl _) hko _)
end
theorem ent_fits : entered Tryz.prog 87 = true := by kernel_rfl
theorem right_calls {m : Rv} {v : Vl} (hs : Sm v m) (ho : v.Ok) {g : Nat} {H : AH} (hg : H g = some .nodr) : ACalls Tryz.prog 69 [.agg [vV v]] H (fun o H' => o = .ret (.bool (rightM m)) ∧ H' = H) := by
  refine ACalls.drop ?_
  have he := each_calls (f := 87) (q := fitsQ) ent_fits (fun m v hs ho g H hg => fits_calls hs ho hg) m v hs ho
  refine acalls Tryz.func69 c69 r69 (by simp [Tryz.ntmps69]) ?_
  by_cases hd : deepI m ≤ 8
  · repeat' (first|with_reducible refine go0 ?_|(with_reducible refine am_cnd ?_ ?_<;>intro hc<;>try (exfalso;omega))|((first|with_reducible (first|refine go1 ?_|refine vc_intro ?_|refine need_el ?_|refine vlen_a ?_|refine need_by ?_|refine call_turn (vdeep_calls m v hs ho _ _ hg) ?_|refine call_turn (he _ _ hg) ?_|refine need_lk ?_)|((with_reducible (first|apply gd_not|apply gd_of|apply gq_not|apply gq_of|apply pickB_of))<;>intro hc<;>(try simp -implicitDefEqProofs (disch:=omega) only [go_sem,hc,hd])<;>(try simp only [reduceCtorEq,bD,beq_iff_eq] at hc)<;>(try (exfalso;omega)))|((with_reducible refine alloc_intro (fun ko hko=>?_))<;>(try have hne:=fresh_ne (by assumption) hko)<;>(try simp only [AH.put_none] at hko))|done)<;>(try simp -implicitDefEqProofs (disch:=omega) only [go_sem,hd])))
    all_goals (rw [rightM,decide_eq_true hd,Bool.true_and]; (refine drop_end (by (first | exact fun _ _ h => h | (intro s x h; first | exact no_sub _ h | exact nil_no _ h | exact AccP.sub (by assumption) _ _ h | (refine agg_sub rfl ?_ x h; repeat (first | exact .nil | refine .cons (fun _ h => h) ?_ | refine .cons (fun _ h => nil_no _ h) ?_ | refine .cons (fun _ h => no_sub _ h) ?_ | refine .cons (fun _ h => AccP.sub (by assumption) _ _ h) ?_)) | (refine tuple_sub ?_ x h; repeat (first | exact .nil | refine .cons (fun _ h => h) ?_ | refine .cons (fun _ h => nil_no _ h) ?_ | refine .cons (fun _ h => no_sub _ h) ?_ | refine .cons (fun _ h => AccP.sub (by assumption) _ _ h) ?_ | refine .cons (fun _ h => agg_sub rfl (by repeat (first | exact .nil | refine .cons (fun _ h => h) ?_ | refine .cons (fun _ h => nil_no _ h) ?_ | refine .cons (fun _ h => no_sub _ h) ?_ | refine .cons (fun _ h => AccP.sub (by assumption) _ _ h) ?_)) _ h) ?_))))) (by (repeat (first | exact AH.le_refl _ | assumption | exact AccP.le (by assumption) | refine AH.le_put ?_ (by first | assumption | exact none_of_le (by assumption) (by assumption) | exact And.right (by assumption) | exact And.right (And.right (by assumption))) _ | refine AH.le_trans ?_ (AccP.le (by assumption)))))))
  · repeat' (first|with_reducible refine go0 ?_|(with_reducible refine am_cnd ?_ ?_<;>intro hc<;>try (exfalso;omega))|((first|with_reducible (first|refine go1 ?_|refine vc_intro ?_|refine need_el ?_|refine vlen_a ?_|refine need_by ?_|refine call_turn (vdeep_calls m v hs ho _ _ hg) ?_|refine call_turn (he _ _ hg) ?_|refine need_lk ?_)|((with_reducible (first|apply gd_not|apply gd_of|apply gq_not|apply gq_of|apply pickB_of))<;>intro hc<;>(try simp -implicitDefEqProofs (disch:=omega) only [go_sem,hc,hd])<;>(try simp only [reduceCtorEq,bD,beq_iff_eq] at hc)<;>(try (exfalso;omega)))|((with_reducible refine alloc_intro (fun ko hko=>?_))<;>(try have hne:=fresh_ne (by assumption) hko)<;>(try simp only [AH.put_none] at hko))|done)<;>(try simp -implicitDefEqProofs (disch:=omega) only [go_sem,hd])))
    all_goals (rw [rightM,decide_eq_false hd,Bool.false_and]; (refine drop_end (by (first | exact fun _ _ h => h | (intro s x h; first | exact no_sub _ h | exact nil_no _ h | exact AccP.sub (by assumption) _ _ h | (refine agg_sub rfl ?_ x h; repeat (first | exact .nil | refine .cons (fun _ h => h) ?_ | refine .cons (fun _ h => nil_no _ h) ?_ | refine .cons (fun _ h => no_sub _ h) ?_ | refine .cons (fun _ h => AccP.sub (by assumption) _ _ h) ?_)) | (refine tuple_sub ?_ x h; repeat (first | exact .nil | refine .cons (fun _ h => h) ?_ | refine .cons (fun _ h => nil_no _ h) ?_ | refine .cons (fun _ h => no_sub _ h) ?_ | refine .cons (fun _ h => AccP.sub (by assumption) _ _ h) ?_ | refine .cons (fun _ h => agg_sub rfl (by repeat (first | exact .nil | refine .cons (fun _ h => h) ?_ | refine .cons (fun _ h => nil_no _ h) ?_ | refine .cons (fun _ h => no_sub _ h) ?_ | refine .cons (fun _ h => AccP.sub (by assumption) _ _ h) ?_)) _ h) ?_))))) (by (repeat (first | exact AH.le_refl _ | assumption | exact AccP.le (by assumption) | refine AH.le_put ?_ (by first | assumption | exact none_of_le (by assumption) (by assumption) | exact And.right (by assumption) | exact And.right (And.right (by assumption))) _ | refine AH.le_trans ?_ (AccP.le (by assumption)))))))
end Go.Proofs.YtkldmgnhbomknaaGreat
