/-
  The walks: objects asked for.
-/
import Derived.Test.YtncgoodlhmpfcaaGreatG16
set_option linter.all false
set_option maxHeartbeats 400000
set_option maxRecDepth 10000
namespace Cv
open Go Go.Proofs
def asA (ka bs br bd bb : Nat) (k : Dk) (tn : Nat) (rs : List Rc) : Asn := all [cl ka 105 [.pointer (some ⟨bs, 0, none⟩), .bool false], cl bs 66 [.pointer (some ⟨br, 0, none⟩), .pointer (some ⟨bd, 0, none⟩), .bool false], dpA bd bb k none tn rs]

theorem sget_spec {bs br bd bb tn : Nat} {k : Dk} {rs : List Rc} {x : ID32} {sk : Bool}  : Spec Tryz.prog 106 [.pointer (some ⟨bs, 0, none⟩), .agg (iC x).toArray] [cl k.bd 51 [.pointer (some ⟨k.bf, 0, none⟩), .slice (some ⟨k.sb, 0, none⟩) k.n k.n, .map (some k.bl)]] [cl bs 66 [.pointer (some ⟨br, 0, none⟩), .pointer (some ⟨bd, 0, none⟩), .bool sk], dpA bd bb k none tn rs] (fun v D' M' => v = .tuple #[.agg (obC (getO (osR rs) x)).toArray, .int .i64 (getE (osR rs) x)] ∧ D' = [] ∧ M' = [cl bs 66 [.pointer (some ⟨br, 0, none⟩), .pointer (some ⟨bd, 0, none⟩), .bool sk], dpA bd bb k none tn rs]) := by
 refine zv (n := 14) Tryz.func106 ?_
 intro σ D M
 have hob := obC_len (getO (osR rs) x)
 have hoi := (getO (osR rs) x).2.1.2
 have hx2 := x.2
 have hx3 := yw x
 refine O (y6 R R R (fun b3 => ?_))
 refine zC R ze88 (fun b4 => ?_)
 refine V R R (zu (zO (A := cl b3 38 (iC x)) qP ?_))
 refine z8 (ze (y7 (clsL [1, 0, 1, 0, 0, 2, 1, 1, 2, 1]) qk ?_))
 refine z9 0 R R (E R R (z7 (yE (i := 1) R R qk qk qk qk R qD qF R ?_)))
 refine z9 2 R R (zg R fo66_1 R ?_)
 refine z7 (zY (i := 3) R R R R qk qk qk qk R qD qF ?_)
 refine zf R sc64 R qC ?_
 refine z7 (zY (i := 4) R R R R qk qk qk qk R qD qF ?_)
 refine zx R zI R qN ?_
 refine z7 (zi 5 R (zp R (ev2 R R) qD qS (dget_spec (x := x)) ?_))
 rintro _ _ _ ⟨rfl, rfl, rfl⟩
 refine zm qA qA ?_
 refine zh R qD ?_
 refine z9 6 R R (zr R R R (z7 (z9 7 R R (zr R R R (z7 (zi 8 R (zz ag88 R R qL qO qU qW ?_)))))))
 refine zh R qD ?_
 refine z9 9 R R (V R R (z7 (zN qk ?_)))
 exact z8 (zo (yW R ag88 R qN R ⟨R, R, R⟩ qD qF))
theorem askget_spec {ka bs br bd bb tn : Nat} {k : Dk} {rs : List Rc} {os : List Ob} {x : ID32} (hos : osR rs = os) : Spec Tryz.prog 268 [.pointer (some ⟨ka, 0, none⟩), .agg (iC x).toArray] [cl k.bd 51 [.pointer (some ⟨k.bf, 0, none⟩), .slice (some ⟨k.sb, 0, none⟩) k.n k.n, .map (some k.bl)]] [asA ka bs br bd bb k tn rs] (fun v D' M' => v = .tuple #[.agg (obC (getO os x)).toArray, .int .i64 (getE os x)] ∧ D' = [] ∧ M' = [asA ka bs br bd bb k tn rs]) := by
 refine zv (n := 30) Tryz.func268 ?_
 intro σ D M
 subst hos
 have hob := obC_len (getO (osR rs) x)
 have hoi := (getO (osR rs) x).2.1.2
 have hx2 := x.2
 have hx3 := yw x
 have he13 : getE (osR rs) x ≠ 13 := by unfold getE; split <;> decide
 refine T.unfold _ (A := asA ka bs br bd bb k tn rs) qP R qA ?_
 refine O (y6 R R R (fun b3 => ?_))
 refine zC R ze88 (fun b4 => ?_)
 refine V R R (zu (zO (A := cl b3 38 (iC x)) qP ?_))
 refine z8 (ze (yx (fun K' D' M' => ∃ (b6 : Nat), K' = [(6, .pointer (some ⟨b6, 0, none⟩)), (7, .int .i64 (getE (osR rs) x))] ∧ D' = [cl b6 88 (obC (getO (osR rs) x))] ∧ M' = [cl ka 105 [.pointer (some ⟨bs, 0, none⟩), .bool false], cl bs 66 [.pointer (some ⟨br, 0, none⟩), .pointer (some ⟨bd, 0, none⟩), .bool false], dpA bd bb k none tn rs]) (M0 := [cl ka 105 [.pointer (some ⟨bs, 0, none⟩), .bool false], cl bs 66 [.pointer (some ⟨br, 0, none⟩), .pointer (some ⟨bd, 0, none⟩), .bool false], dpA bd bb k none tn rs]) (.c 0 R <| .c 4 R <| zd _) qS ?_ ?_))
 ·refine y7 (clsL [1, 1, 1, 2, 1, 2, 1, 1, 1, 2, 2, 1]) qk ?_
  refine z9 0 R R (E R R (z7 (yX (i := 1) R R qk qk qk R qD R ?_)))
  refine z9 2 R R (zg R fo105_0 R ?_)
  refine z7 (z9 4 R R (zx R zI R qN ?_))
  refine z7 (yA (is := [3, 9]) qk jD (zU R ?_ <| zU R ?_ <| yB) )
  ·refine zf R sc24 R qC ?_
   refine zh R qD ?_
   refine yA (is := [5, 9]) qk jD (zU R ?_ <| zU R ?_ <| yB) 
   ·refine zp R (ev2 R R) qD qS (sget_spec (x := x)) ?_
    rintro _ _ _ ⟨rfl, rfl, rfl⟩
    refine zm qA qA ?_
    refine zh R qD ?_
    refine z9 6 R R (E R R (z7 (z9 7 R R (zr R R R (z7 (z9 8 R R (zr R R R (z7 (zi 9 R (zC R ze88 (fun b6 => ?_)))))))))))
    refine zh R qD ?_
    refine zi 10 R (zz ag88 R R qL qO qU qW ?_)
    refine zh R qD ?_
    refine z9 11 R R (V R R (z7 (zN qk ?_)))
    refine zO (A := cl b6 88 (obC (getO (osR rs) x))) qP ?_
    exact z8 (zK ⟨_, R, R, R⟩ (.c 6 R <| .c 7 R <| zd _) (.c 0 R <| .c 4 R <| zd _) qD qD qF)
   refine zC R ze88 (fun b6 => ?_)
   refine zh R qD ?_
   refine zi 5 R (zp R (ev2 R R) qD qS (sget_spec (x := x)) ?_)
   rintro _ _ _ ⟨rfl, rfl, rfl⟩
   refine zm qA qA ?_
   refine zh R qD ?_
   refine z9 6 R R (E R R (z7 (z9 7 R R (zr R R R (z7 (z9 8 R R (zr R R R (z7 (zi 10 R (zz ag88 R R qL qO qU qW ?_))))))))))
   refine zh R qD ?_
   refine z9 11 R R (V R R (z7 (zN qk ?_)))
   refine zO (A := cl b6 88 (obC (getO (osR rs) x))) qP ?_
   exact z8 (zK ⟨_, R, R, R⟩ (.c 6 R <| .c 7 R <| zd _) (.c 0 R <| .c 4 R <| zd _) qD qD qF)
  refine zC R ze88 (fun b6 => ?_)
  refine zh R qD ?_
  refine zi 3 R (zf R sc24 R qC ?_)
  refine zh R qD ?_
  refine zi 5 R (zp R (ev2 R R) qD qS (sget_spec (x := x)) ?_)
  rintro _ _ _ ⟨rfl, rfl, rfl⟩
  refine zm qA qA ?_
  refine zh R qD ?_
  refine z9 6 R R (E R R (z7 (z9 7 R R (zr R R R (z7 (z9 8 R R (zr R R R (z7 (zi 10 R (zz ag88 R R qL qO qU qW ?_))))))))))
  refine zh R qD ?_
  refine z9 11 R R (V R R (z7 (zN qk ?_)))
  refine zO (A := cl b6 88 (obC (getO (osR rs) x))) qP ?_
  exact z8 (zK ⟨_, R, R, R⟩ (.c 6 R <| .c 7 R <| zd _) (.c 0 R <| .c 4 R <| zd _) qD qD qF)
 rintro _ _ _ ⟨b6, rfl, rfl, rfl⟩
 refine zM qA qA qA ?_
 refine z8 (O (E R R (E R R (zJ R R ?_))))
 refine zg R fo105_1 R ?_
 refine zf R sc4 R qC ?_
 refine E R R (zE (t := 22) R (show _ = Value.bool false from congrArg Value.bool (R)) ?_)
 refine zj 22 R R R (E R R (zj 22 R R R (yi R R R (yg R R R (zE (t := 25) (u := .bool false) R (congrArg Value.bool (decide_eq_false he13)) ?_)))))
 refine zJ R R ?_
 refine zg R fo105_1 R ?_
 refine yj sc4 R R R qU qE ?_
 refine I (O (zx R ag88 R qN ?_))
 refine E R R (zz ag88 R R qL qO qU qW ?_)
 refine V R R (I (zo (T.foldAs (A := asA ka bs br bd bb k tn rs) (L := [cl ka 105 [.pointer (some ⟨bs, 0, none⟩), .bool false], cl bs 66 [.pointer (some ⟨br, 0, none⟩), .pointer (some ⟨bd, 0, none⟩), .bool false], dpA bd bb k none tn rs]) qS R ?_)))
 exact yW R ag88 R qN R ⟨R, R, R⟩ qD qF
theorem mthK {v : Value} : Mth Tryz.prog 103 v "Get" 268 v := fun w => by kernel_rfl
end Cv
set_option maxRecDepth 10000
namespace Cv
open Go Go.Proofs

theorem look_spec {ka bs br bd bb tn n : Nat} {k : Dk} {rs : List Rc} {os : List Ob} {x : ID32} (hn : n ≤ 1000000) (hs : Shf os) (hol : os.length = n) (hos : osR rs = os) : Spec Tryz.prog 190 [.iface 103 (.pointer (some ⟨ka, 0, none⟩)), .agg (iC x).toArray] [cl k.bd 51 [.pointer (some ⟨k.bf, 0, none⟩), .slice (some ⟨k.sb, 0, none⟩) k.n k.n, .map (some k.bl)]] [asA ka bs br bd bb k tn rs] (fun v D' M' => ∃ (a' : Option Addr) (n' c' : Nat), v = .tuple #[.agg (inC (lkR os x).1 a' n' c').toArray, .bool (lkR os x).2.2] ∧ ((lkR os x).2.1.length = n') ∧ D' = [rsl 32 a' n' c' ((lkR os x).2.1.map iC)] ∧ M' = [asA ka bs br bd bb k tn rs]) := by
 refine zv (n := 32) Tryz.func190 ?_
 intro σ D M
 have hx32 := x.2
 have hx3 := yw x
 refine O (y6 R R R (fun b3 => ?_))
 refine zC R ze75 (fun b4 => ?_)
 refine V R R (I (O (E R R (zx R zI R qN ?_))))
 refine L.inv R R mthK (ev1 R) qD qS (askget_spec (os := os) (x := x) hos) ?_
 rintro _ _ _ ⟨rfl, rfl, rfl⟩
 refine zm qA qA ?_
 obtain ⟨o, ho⟩ : ∃ o, o = getO os x := ⟨_, rfl⟩
 obtain ⟨e, he⟩ : ∃ e, e = getE os x := ⟨_, rfl⟩
 have hos := hs.get x
 rw [← ho] at hos ⊢
 rw [← he]
 have ho33 := obC_len o
 have ho32 := o.2.1.2
 refine E R R (zr R R R (zr R R R (zC R ze88 (fun b6 => ?_))))
 refine zz ag88 R R qL qO qU qW ?_
 refine V R R (zu (zO (A := cl b6 88 (obC o)) qP ?_))
 refine z8 (ze (O (E R R (zZ R R R (E R R (yT (t := 17) R (fun h1 => ?_) (fun h1 => ?_)))))))
 ·try simp only [dq] at h1
  refine zw 17 true R R R R R jD (zw 17 true R R R R R jD (zw 17 true R R R R R jD (ym R R R (I (yV R R ?_)))))
  refine O (yq R bu75 (zQ (out := (j8 :: j8 :: j8 :: j8 :: j8 :: j8 :: j8 :: j8 :: j8 :: j8 :: j8 :: j8 :: j8 :: j8 :: j8 :: j8 :: j8 :: j8 :: j8 :: j8 :: j8 :: j8 :: j8 :: j8 :: j8 :: j8 :: j8 :: j8 :: j8 :: j8 :: j8 :: j8 :: .int .i64 0 :: Value.slice none 0 0 :: [])) R) ?_)
  refine zz yu R R qL qO qU qW ?_
  refine V R R (zu (yM (sz := 32) (e := 38) ?_))
  refine y3 qP (show own 32 38 none 0 0 [] = own 32 38 none 0 0 (([] : List ID32).map iC) from R) ?_
  refine yQ (rows := ([] : List ID32).map iC) qP ?_
  refine z8 (zo (zL ?_))
  rw [lkR_no (.inl (by rw [← he]; exact h1))]
  exact yW R yu R qN R ⟨none, 0, 0, R, R, R, R⟩ qD qF
 try simp only [dq] at h1
 refine zj 17 R R R (zg R fo88_0 R ?_)
 refine zj 17 R R R (zf R sc3 R qC ?_)
 refine zj 17 R R R (zZ R R R (yg R R R (I (zA R (fun h21 => ?_) (fun h21 => ?_)))))
 ·try simp only [dq] at h21
  refine O (yq R bu75 (zQ (out := (j8 :: j8 :: j8 :: j8 :: j8 :: j8 :: j8 :: j8 :: j8 :: j8 :: j8 :: j8 :: j8 :: j8 :: j8 :: j8 :: j8 :: j8 :: j8 :: j8 :: j8 :: j8 :: j8 :: j8 :: j8 :: j8 :: j8 :: j8 :: j8 :: j8 :: j8 :: j8 :: .int .i64 0 :: Value.slice none 0 0 :: [])) R) ?_)
  refine zz yu R R qL qO qU qW ?_
  refine V R R (zu (yM (sz := 32) (e := 38) ?_))
  refine y3 qP (show own 32 38 none 0 0 [] = own 32 38 none 0 0 (([] : List ID32).map iC) from R) ?_
  refine yQ (rows := ([] : List ID32).map iC) qP ?_
  refine z8 (zo (zL ?_))
  rw [lkR_no (.inr (by rw [← ho]; exact h21))]
  exact yW R yu R qN R ⟨none, 0, 0, R, R, R, R⟩ qD qF
 try simp only [dq] at h21
 refine zq (z8 (O (zg R fo88_2 R ?_)))
 refine zf R sc9 R qC ?_
 refine zp R (ev1 R) qD qS (iparse_spec (s := o.2.2) jO) ?_
 rintro _ _ _ ⟨qa, qn, qc, rfl, hqn, rfl, rfl⟩
 refine zm qA qA ?_
 obtain ⟨W, hW⟩ : ∃ z, z = parI o.2.2 := ⟨_, rfl⟩
 rw [← hW] at hqn ⊢
 have hin := inC_len W.1 qa qn qc
 refine E R R (zr R R R (zr R R R (zC R ze75 (fun b8 => ?_))))
 refine zz yu R R qL qO qU qW ?_
 refine V R R (zu (zO (A := cl b8 75 (inC W.1 qa qn qc)) qP ?_))
 refine z8 (O (zx R yu R qN ?_))
 refine E R R (yi R R R (zz yu R R qL qO qU qW ?_))
 refine V R R (I (zo ?_))
 rw [lkR_yes (by rw [← he]; exact Decidable.not_not.1 h1) (by rw [← ho]; exact Decidable.not_not.1 h21), ← ho, ← hW]
 exact yW R yu R qN R ⟨_, _, _, R, hqn, R, R⟩ qD qF
end Cv
set_option maxRecDepth 10000
namespace Cv
open Go Go.Proofs

theorem reach_spec {ka bs br bd bb tn n : Nat} {k : Dk} {rs : List Rc} {os : List Ob} {b : Option Addr} {m d : Nat} {l : List ID32} (hn : n ≤ 3000) (hs : Shf os) (hm : m ≤ 10000) (h12 : 9 * kn3 os + (m) ≤ 12) (hol : os.length = n) (hos : osR rs = os) : Spec Tryz.prog 138 [.iface 103 (.pointer (some ⟨ka, 0, none⟩)), .slice b m d] [cl k.bd 51 [.pointer (some ⟨k.bf, 0, none⟩), .slice (some ⟨k.sb, 0, none⟩) k.n k.n, .map (some k.bl)], rsl 32 b m d (l.map iC)] [asA ka bs br bd bb k tn rs] (fun v D' M' => ∃ (a' : Option Addr) (n' c' : Nat) (us : List ID32), v = .slice a' n' c' ∧ (RchF os l us) ∧ (us.length = n') ∧ (n' ≤ 9 * kn3 os + m) ∧ D' = [] ∧ M' = [asA ka bs br bd bb k tn rs, own 32 38 a' n' c' (us.map iC)]) := by
 refine zv (n := 49) Tryz.func138 ?_
 intro σ D M
 refine yU (a := b) (len := m) (cap := d) (rows := l.map iC) qM (fun hll hlc => ?_)
 rw [List.length_map] at hll
 refine O (V R R (I (O (xN aK iK R (fun sm => ?_)))))
 refine V R R (I (ze (zD (y8 (fun K' D' M' μ => ∃ (n1 d1 : Nat) (b1 : Option Addr) (st : List ID32) (ml : SnM), (RcI os l st ml (9 * kn3 os + m) ∧ st.length = n1) ∧ K' = [(1, .slice b1 n1 d1)] ∧ D' = [rsl 32 b1 n1 d1 ((st).map iC)] ∧ M' = [mp sm aK iK ml] ∧ μ = 9 * unk os ml + n1) (.c 0 R <| .c 5 R <| zd _) (⟨m, d, b, l, [], ⟨.start hll, hll⟩, R, R, R, R⟩) (.c 1 R <| zd _) qD qS ?_))))
 rintro K1 D1 M1 m1 ⟨n1, d1, b1, st, ml, ⟨hI, hsl⟩, rfl, rfl, rfl, rfl⟩
 refine zM qA qA qA ?_
 refine yU (a := b1) (len := n1) (cap := d1) (rows := st.map iC) qM (fun hsl2 hsc2 => ?_)
 clear hsl2
 refine ze (O (E R R (yb R yh R (yy R R R (I (zA R (fun h12 => ?_) (fun h12 => ?_)))))))
 ·try simp only [dq] at h12
  refine zq (z8 (zD (ze ?_)))
  have hgx : st[n1 - 1]? = some (gd st (n1 - 1)) := y9 jO
  obtain ⟨x, hx_⟩ : ∃ z, z = gd st (n1 - 1) := ⟨_, rfl⟩
  rw [← hx_] at hgx
  clear hx_
  have hrx : (st.map iC)[n1 - 1]? = some (iC x) := yJ hgx
  have hx32 := x.2
  have hx3 := yw x
  have hst := sp_last hsl hgx
  have hw0 := hI.w0 x
  have hIx := hI
  rw [hst] at hIx
  have hlen := hI.len
  refine zt (E R R (E R R (yb R yh R (yt R R R jO ?_))))
  refine yP (i := n1 - 1) R yh sz38 R R qM jR qG (fun b17 o17 => ?_)
  refine zx R zI R (xl qM hx3) ?_
  refine zC R ze38 (fun b6 => ?_)
  refine zz zI R R qL qO qU qW ?_
  refine zu (zO (A := cl b6 38 (iC x)) qP ?_)
  refine z8 (O (E R R (E R R (yb R yh R (yt R R R jO ?_)))))
  refine L.sliceR R yh sz38 R xb (Bd.at (x := n1 - 1) R jR) qM qI qI qI (fun a23 => ?_)
  refine L.derive (ψ := rsl 32 a23 (n1 - 1 - 0) (d1 - 0) ((st.take (n1 - 1)).map iC)) (List.Mem.head _) (fun z H => by rw [List.map_take]; exact H) ?_
  refine zp R (ev1 R) qD qS (clone_spec (xs := st.take (n1 - 1)) jO) ?_
  rintro _ _ _ ⟨ca, cl_, cc, rfl, hcl, rfl, rfl⟩
  refine zm qA qA ?_
  subst hcl
  refine V R R (I (ze (ze (yx (fun K' D' M' => K' = [] ∧ D' = [] ∧ M' = [mp sm aK iK (put ml x (val0 ml x + 1))]) (M0 := [mp sm aK iK ml]) (.c 0 R <| .c 1 R <| .c 5 R <| .c 6 R <| zd _) qS ?_ ?_))))
  ·refine y7 (clsL [1, 1, 2, 1, 2, 1, 2]) qk ?_
   refine z9 0 R R (E R R (z7 (z9 1 R R (zx R zI R qN ?_))))
   refine z7 (yA (is := [2, 4]) qk jD (zU R ?_ <| zU R ?_ <| yB) )
   ·refine L.lookup1 (kenc := aK) (venc := iK) (l := ml) (k := x) R xd (yo yf zX sc5) zv3 R R qM ?_
    refine zE (t := 27) (u := .int .i64 (val0 (ml) (x))) R (by unfold val0; cases look (ml) (x) <;> rfl) ?_
    refine zh R qD ?_
    refine z9 3 R R (zT R R R jO ?_)
    refine z7 (zi 4 R (L.mapEntry (kenc := aK) (venc := iK) (l := ml) (k := x) (z0 := 0) R xd (yo yf zX sc5) zv3 R R qP (fun mt => ?_)))
    refine zh R qD ?_
    refine z9 5 R R (zr R R R (z7 (zi 6 R (L.entryStore (kenc := aK) (venc := iK) (l := Cv.put ml x ((look ml x).getD 0)) (k := x) (v := val0 ml x + 1) R R R R qP ?_))))
    rw [put_put]
    refine zh R qD ?_
    refine zN qk ?_
    exact z8 (zK ⟨R, R, R⟩ (zd _) (.c 0 R <| .c 1 R <| .c 5 R <| .c 6 R <| zd _) qD qD qF)
   refine L.mapEntry (kenc := aK) (venc := iK) (l := ml) (k := x) (z0 := 0) R xd (yo yf zX sc5) zv3 R R qP (fun mt => ?_)
   refine zh R qD ?_
   refine z9 5 R R (zr R R R (z7 (zi 2 R (L.lookup1E (kenc := aK) (venc := iK) (l := Cv.put ml x ((look ml x).getD 0)) (k := x) R xd (yo yf zX sc5) zv3 R R qM ?_))))
   refine zE (t := 27) (u := .int .i64 (val0 ml x)) R (by rw [xH, if_pos R]; rfl) ?_
   refine zh R qD ?_
   refine z9 3 R R (zT R R R jO ?_)
   refine z7 (zi 6 R (L.entryStore (kenc := aK) (venc := iK) (l := Cv.put ml x ((look ml x).getD 0)) (k := x) (v := val0 ml x + 1) R R R R qP ?_))
   rw [put_put]
   refine zh R qD ?_
   refine zN qk ?_
   exact z8 (zK ⟨R, R, R⟩ (zd _) (.c 0 R <| .c 1 R <| .c 5 R <| .c 6 R <| zd _) qD qD qF)
  rintro _ _ _ ⟨rfl, rfl, rfl⟩
  refine zM qA qA qA ?_
  refine z8 (O (E R R (zx R zI R qN ?_)))
  refine L.lookup1 (kenc := aK) (venc := iK) (l := (put ml x (val0 ml x + 1))) (k := x) R xd (yo yf zX sc5) zv3 R R qM ?_
  refine zE (t := 33) (u := .int .i64 (val0 ml x + 1)) R (by rw [xH, if_pos R]; rfl) ?_
  refine yy R R R (I (zA R (fun h34 => ?_) (fun h34 => ?_)))
  ·try simp only [dq] at h34
   refine y4 (zG (y5 (z8 ?_)))
   have hu := unk_le (os := os) (ml := ml) (k := x) (v := val0 ml x + 1)
   refine yQ (rows := (st.take (n1 - 1)).map iC) qP ?_
   exact zV ⟨_, _, _, st.take (n1 - 1), (put ml x (val0 ml x + 1)), ⟨hIx.old jO, by rw [List.length_take]; omega⟩, R, R, R, R⟩ qI (.c 1 R <| zd _) (.c 0 R <| .c 5 R <| zd _) qD qD qF
  try simp only [dq] at h34
  refine zq (z8 (O (E R R (zx R zI R qN ?_))))
  refine zp R (ev2 R R) qD qS (look_spec (os := os) (x := x) jO hs hol hos) ?_
  rintro _ _ _ ⟨ka, kn, kc, rfl, hkn, rfl, rfl⟩
  refine zm qA qA ?_
  have hin := inC_len (lkR os x).1 ka kn kc
  have hp32 := (lkR os x).1.1.2
  have h8 := lkR_len os x
  refine E R R (zr R R R (zr R R R (zC R ze75 (fun b7 => ?_))))
  refine zz yu R R qL qO qU qW ?_
  refine V R R (zu (zO (A := cl b7 75 (inC (lkR os x).1 ka kn kc)) qP ?_))
  refine z8 (O (E R R (I (zA R (fun h41 => ?_) (fun h41 => ?_)))))
  ·try simp only [dq] at h41
   refine zt (E R R (zg R fo75_1 R ?_))
   refine zf R sc32 R qC ?_
   refine xC R yh yh el38 R R qP (rd_D qM) one_ics qI qI (fun a45 c45 => ?_)
   refine V R R (zu (zS (z8 ?_)))
   obtain ⟨hN, hu⟩ := hIx.new jO
   rw [if_pos h41] at hN hu
   refine yp _ ((st.take (n1 - 1) ++ (lkR os x).2.1).map iC) qP (by rw [List.map_append]) ?_
   refine yQ (rows := (st.take (n1 - 1) ++ (lkR os x).2.1).map iC) qP ?_
   exact zV ⟨_, _, _, st.take (n1 - 1) ++ (lkR os x).2.1, (put ml x (val0 ml x + 1)), ⟨hN, by rw [List.length_append, List.length_take]; omega⟩, R, R, R, R⟩ (by rw [List.length_append, List.length_append, List.length_singleton, List.length_take] at hu; omega) (.c 1 R <| zd _) (.c 0 R <| .c 5 R <| zd _) qD qD qF
  try simp only [dq] at h41
  refine zq (zS (z8 ?_))
  obtain ⟨hN, hu⟩ := hIx.new jO
  rw [if_neg (by rw [h41]; decide), List.append_nil] at hN hu
  refine yQ (rows := (st.take (n1 - 1)).map iC) qP ?_
  exact zV ⟨_, _, _, st.take (n1 - 1), (put ml x (val0 ml x + 1)), ⟨hN, by rw [List.length_take]; omega⟩, R, R, R, R⟩ (by rw [List.length_append, List.length_singleton, List.length_take] at hu; omega) (.c 1 R <| zd _) (.c 0 R <| .c 5 R <| zd _) qD qD qF
 try simp only [dq] at h12
 obtain rfl : st = [] := List.length_eq_zero_iff.1 jO
 have hlen := hI.len
 refine T.mpNodup (kenc := aK) (venc := iK) qM (fun hnd => ?_)
 refine y4 (zG (zG (y5 (z8 (O (E R R (zp R (ev1 R) qD qS (keysfR_spec) ?_)))))))
 rintro _ _ _ ⟨kc, rfl, rfl, rfl⟩
 refine zm qA qA ?_
 refine zp R (ev2 R R) qD qS (sortedGR_spec (keys_iterR (ml := ml) (m := sm) (c := kc)) (fun pre x h => by omega) (fun xs h => by have := h.length_eq; rw [List.length_map] at this; omega)) ?_
 rintro _ _ _ ⟨ga, gn, gc, xs, us, rfl, hxs, hup, hus, hun, rfl, rfl⟩
 refine zm qA qA ?_
 exact V R R (I (zo (zy R R ⟨_, _, _, us, R, hI.out (keys_of hnd hxs hup hus), hun, (by have h1 := hup.length_eq; have h2 := hxs.length_eq; rw [List.length_map] at h2; omega), R, R⟩ qD qF)))
end Cv
set_option maxRecDepth 10000
namespace Cv
open Go Go.Proofs
/-! ## the objects of paths -/
def opn (ml : SnM) (x : ID32) : Prop := 1 < val0 ml x
def OkM (ml : SnM) : Prop := ∀ x, 0 ≤ val0 ml x ∧ val0 ml x ≤ 2
def kIn (ml : SnM) (x : ID32) : Prop := x ∈ ml.map Prod.fst
def opb (os : List Ob) (x : ID32) (lv : Int) : Prop := lv ≠ 0 ∧ ∃ o, goF os x = some o ∧ o.1 = 2 ∧ (nodR o.2.2).2.2 = 0
def Dn (os : List Ob) (ml : SnM) (p : Pt) (lv : Int) : Prop := goF os p.1 = none ∨ (kIn ml p.1 ∧ (opb os p.1 lv → opn ml p.1))
def PDn (os : List Ob) (ml : SnM) (x : ID32) : Prop := ∀ o, goF os x = some o → ∀ q ∈ (nodR o.2.2).2.1, Dn os ml q ((((nodR o.2.2).1 : Nat) : Int) - 1)
inductive Bel (os : List Ob) (p : Pt) (lv : Int) : Pt → Int → Prop
  | base : Bel os p lv p lv
  | step {q r : Pt} {k : Int} {o : Ob} (h : Bel os p lv q k) (g : goF os q.1 = some o) (h0 : k ≠ 0) (h2 : o.1 = 2) (he : (nodR o.2.2).2.2 = 0) (m : r ∈ (nodR o.2.2).2.1) : Bel os p lv r ((((nodR o.2.2).1 : Nat) : Int) - 1)
theorem Bel.trans {os : List Ob} {p q r : Pt} {lv k j : Int} (h : Bel os p lv q k) (g : Bel os q k r j) : Bel os p lv r j := by
  induction g with
  | base => exact h
  | step _ g1 h0 h2 he m ih => exact .step ih g1 h0 h2 he m
def Blw (os : List Ob) (p : Pt) (lv : Int) (x : ID32) : Prop := ∃ q k, Bel os p lv q k ∧ q.1 = x ∧ goF os x ≠ none
theorem Blw.trans {os : List Ob} {p q : Pt} {lv k : Int} {x : ID32} (h : Bel os p lv q k) (g : Blw os q k x) : Blw os p lv x := by
  obtain ⟨r, j, a, b, c⟩ := g
  exact ⟨r, j, h.trans a, b, c⟩
theorem val0_put {ml : SnM} {x y : ID32} {v : Int} : val0 (put ml x v) y = if y = x then v else val0 ml y := by
  unfold val0; rw [xH]; split <;> rfl
theorem kIn_put {ml : SnM} {x y : ID32} {v : Int} : kIn (put ml x v) y ↔ kIn ml y ∨ y = x := put_mem
structure BelP (os : List Ob) (p : Pt) (lv : Int) (ml ml' : SnM) : Prop where
  ok : OkM ml'
  ky : ∀ x, kIn ml x → kIn ml' x
  op : ∀ x, opn ml x → opn ml' x
  dn : Dn os ml' p lv
  cl : ∀ x, opn ml' x → ¬ opn ml x → PDn os ml' x
  so : ∀ x, kIn ml' x → ¬ kIn ml x → Blw os p lv x
theorem Dn.mono {os : List Ob} {ml ml' : SnM} {p : Pt} {lv : Int} (h : Dn os ml p lv) (k : ∀ x, kIn ml x → kIn ml' x) (o : ∀ x, opn ml x → opn ml' x) : Dn os ml' p lv := by
  rcases h with h | ⟨h1, h2⟩
  · exact .inl h
  · exact .inr ⟨k _ h1, fun q => o _ (h2 q)⟩
theorem BelP.none {os : List Ob} {p : Pt} {lv : Int} {ml : SnM} (hk : OkM ml) (h : goF os p.1 = none) : BelP os p lv ml ml := ⟨hk, fun _ h => h, fun _ h => h, .inl h, fun _ a b => absurd a b, fun _ a b => absurd a b⟩
theorem BelP.leaf {os : List Ob} {p : Pt} {lv v : Int} {ml : SnM} {o : Ob} {z : Nat × List Pt × Int} (hk : OkM ml) (h : goF os p.1 = some o) (hz : z = nodR o.2.2) (hv : v = max (val0 ml p.1) 1) (hn : ¬ (lv ≠ 0 ∧ o.1 = 2 ∧ z.2.2 = 0 ∧ ¬ 1 < v)) : BelP os p lv ml (put ml p.1 v) := by
  subst hz
  have h2 := hk p.1
  refine ⟨fun x => ?_, fun x h => kIn_put.2 (.inl h), fun x h => ?_, .inr ⟨kIn_put.2 (.inr R), fun q => ?_⟩, fun x a b => ?_, fun x a b => ?_⟩
  · rw [val0_put]; split
    · omega
    · exact hk x
  · unfold opn at h ⊢
    rw [val0_put]; split
    · rename_i e; subst e; omega
    · exact h
  · obtain ⟨q0, o', q1, q2, q3⟩ := q
    rw [h] at q1; injection q1 with q1; subst q1
    unfold opn
    rw [val0_put, if_pos rfl]
    exact Decidable.byContradiction fun c => hn ⟨q0, q2, q3, c⟩
  · exfalso
    unfold opn at a b
    rw [val0_put] at a
    split at a
    · rename_i e; subst e; omega
    · exact b a
  · rcases kIn_put.1 a with c | c
    · exact absurd c b
    · exact ⟨p, lv, .base, c.symm, by rw [c, h]; exact fun q => by cases q⟩
structure LpI (os : List Ob) (p : Pt) (lv : Int) (z : Nat × List Pt × Int) (ml mi : SnM) (i : Nat) : Prop where
  ok : OkM mi
  ky : ∀ x, kIn (put ml p.1 2) x → kIn mi x
  op : ∀ x, opn (put ml p.1 2) x → opn mi x
  dn : ∀ q ∈ z.2.1.take i, Dn os mi q (((z.1 : Nat) : Int) - 1)
  cl : ∀ x, opn mi x → ¬ opn (put ml p.1 2) x → PDn os mi x
  so : ∀ x, kIn mi x → ¬ kIn (put ml p.1 2) x → Blw os p lv x
theorem LpI.start {os : List Ob} {p : Pt} {lv : Int} {z : Nat × List Pt × Int} {ml : SnM} (hk : OkM ml) : LpI os p lv z ml (put ml p.1 2) 0 :=
  ⟨fun x => by rw [val0_put]; split <;> first | omega | exact hk x, fun _ h => h, fun _ h => h, fun q h => (by cases h), fun _ a b => absurd a b, fun _ a b => absurd a b⟩
theorem LpI.next {os : List Ob} {p q : Pt} {lv : Int} {z : Nat × List Pt × Int} {ml mi mj : SnM} {i : Nat} {o : Ob} (h : LpI os p lv z ml mi i) (hg : z.2.1[i]? = some q) (g : goF os p.1 = some o) (h0 : lv ≠ 0) (h2 : o.1 = 2) (hz : z = nodR o.2.2) (he : z.2.2 = 0) (b : BelP os q (((z.1 : Nat) : Int) - 1) mi mj) : LpI os p lv z ml mj (i + 1) := by
  have hq : q ∈ z.2.1 := List.mem_of_getElem? hg
  subst hz
  refine ⟨b.ok, fun x k => b.ky x (h.ky x k), fun x k => b.op x (h.op x k), fun r hr => ?_, fun x a c => ?_, fun x a c => ?_⟩
  · rw [List.take_add_one, hg] at hr
    rcases List.mem_append.1 hr with e | e
    · exact (h.dn r e).mono b.ky b.op
    · obtain rfl : r = q := by simpa using e
      exact b.dn
  · by_cases d : opn mi x
    · exact fun o ho r hr => ((h.cl x d c) o ho r hr).mono b.ky b.op
    · exact b.cl x a d
  · by_cases d : kIn mi x
    · exact h.so x d c
    · exact (b.so x a d).trans (.step .base g h0 h2 he hq)
theorem LpI.fin {os : List Ob} {p : Pt} {lv : Int} {z : Nat × List Pt × Int} {ml mi : SnM} {i : Nat} {o : Ob} (h : LpI os p lv z ml mi i) (hi : z.2.1.length ≤ i) (g : goF os p.1 = some o) (hz : z = nodR o.2.2) : BelP os p lv ml mi := by
  have hd := h.dn
  rw [List.take_of_length_le hi] at hd
  subst hz
  refine ⟨h.ok, fun x k => h.ky x (kIn_put.2 (.inl k)), fun x k => h.op x ?_, .inr ⟨h.ky _ (kIn_put.2 (.inr R)), fun _ => h.op _ ?_⟩, fun x a b => ?_, fun x a b => ?_⟩
  · unfold opn at k ⊢
    rw [val0_put]; split
    · decide
    · exact k
  · unfold opn; rw [val0_put, if_pos rfl]; decide
  · by_cases e : x = p.1
    · subst e
      intro o' ho' q hq
      rw [g] at ho'; injection ho' with ho'; subst ho'
      exact hd q hq
    · exact h.cl x a fun c => b (by unfold opn at c ⊢; rw [val0_put, if_neg e] at c; exact c)
  · by_cases e : x = p.1
    · exact ⟨p, lv, .base, e.symm, by rw [e, g]; exact fun q => by cases q⟩
    · exact h.so x a fun c => (kIn_put.1 c).elim b e
def uop (os : List Ob) (ml : SnM) : Nat := (os.filter fun o => decide (¬ 1 < val0 ml o.2.1)).length
theorem uop_lt {os : List Ob} {ml mi : SnM} {x : ID32} {o : Ob} (g : goF os x = some o) (h : ¬ 1 < val0 ml x) (m : ∀ y, opn (put ml x 2) y → opn mi y) : uop os mi < uop os ml := by
  obtain ⟨ho, rfl⟩ := goF_mem g
  refine filt_lt (fun y hy => decide_eq_true fun c => of_decide_eq_true hy (m _ ?_)) ⟨o, ho, decide_eq_true h, decide_eq_false fun c => c (m _ ?_)⟩
  · unfold opn; rw [val0_put]; split
    · decide
    · exact c
  · unfold opn; rw [val0_put, if_pos rfl]; decide
theorem bel_go {w : Bool} {lv v1 k : Int} {a b : Prop} (hw : w = true ↔ ¬ (lv ≠ 0 ∧ a ∧ b ∧ ¬ 1 < v1)) (h : w = false) (hv : v1 = max k 1) : lv ≠ 0 ∧ a ∧ b ∧ ¬ 1 < k := by
  have h1 : lv ≠ 0 ∧ a ∧ b ∧ ¬ 1 < v1 := Classical.byContradiction fun e => by have := hw.2 e; rw [h] at this; cases this
  exact ⟨h1.1, h1.2.1, h1.2.2.1, by have := h1.2.2.2; omega⟩

theorem below_step {ka bs br bd bb tn n : Nat} {k : Dk} {rs : List Rc} {os : List Ob} {sm : Nat} {lv : Int} {p : Pt} {ml : SnM} (hn : n ≤ 1000000) (hs : Shf os) (hl : -1 ≤ lv ∧ lv ≤ 8) (hk : OkM ml) (IH : ∀ mj : SnM, OkM mj → uop os mj < uop os ml → ∀ (j : Nat) (q : Pt), j ≤ 7 → Spec Tryz.prog 191 [.iface 103 (.pointer (some ⟨ka, 0, none⟩)), .agg (ptC q).toArray, .int .i64 (j : Int), .map (some sm)] [cl k.bd 51 [.pointer (some ⟨k.bf, 0, none⟩), .slice (some ⟨k.sb, 0, none⟩) k.n k.n, .map (some k.bl)]] [asA ka bs br bd bb k tn rs, mp sm aK iK mj] (fun v D' M' => ∃ mr : SnM, v = .tuple #[] ∧ BelP os q (j : Int) mj mr ∧ D' = [] ∧ M' = [asA ka bs br bd bb k tn rs, mp sm aK iK mr])) (hol : os.length = n) (hos : osR rs = os) : Spec Tryz.prog 191 [.iface 103 (.pointer (some ⟨ka, 0, none⟩)), .agg (ptC p).toArray, .int .i64 lv, .map (some sm)] [cl k.bd 51 [.pointer (some ⟨k.bf, 0, none⟩), .slice (some ⟨k.sb, 0, none⟩) k.n k.n, .map (some k.bl)]] [asA ka bs br bd bb k tn rs, mp sm aK iK ml] (fun v D' M' => ∃ (mr : SnM), v = .tuple #[] ∧ (BelP os p lv ml mr) ∧ D' = [] ∧ M' = [asA ka bs br bd bb k tn rs, mp sm aK iK mr]) := by
 refine zv (n := 72) Tryz.func191 ?_
 intro σ D M
 have hp32 := p.1.2
 have hp33 := ptC_len p
 have hkp := hk p.1
 refine O (y6 R R R (fun b5 => ?_))
 refine zu (zO (A := cl b5 73 (ptC p)) qP ?_)
 refine z8 (O (E R R (zg R fo73_0 R ?_)))
 refine zx R zI R qN ?_
 refine L.inv R R mthK (ev1 R) qD qS (askget_spec (os := os) (x := p.1) hos) ?_
 rintro _ _ _ ⟨rfl, rfl, rfl⟩
 refine zm qA qA ?_
 obtain ⟨o, ho⟩ : ∃ o, o = getO os p.1 := ⟨_, rfl⟩
 obtain ⟨e, he⟩ : ∃ e, e = getE os p.1 := ⟨_, rfl⟩
 have hos := hs.get p.1
 rw [← ho] at hos ⊢
 rw [← he]
 have ho33 := obC_len o
 have ho32 := o.2.1.2
 refine E R R (zr R R R (zr R R R (zC R ze88 (fun b8 => ?_))))
 refine zz ag88 R R qL qO qU qW ?_
 refine V R R (zu (zO (A := cl b8 88 (obC o)) qP ?_))
 refine z8 (ze (O (E R R (zZ R R R (I (zA R (fun h21 => ?_) (fun h21 => ?_)))))))
 ·try simp only [dq] at h21
  exact zo (zL (yS (by simp) R ⟨_, R, .none hk (getE_7 (by rw [← he]; exact h21)), R, R⟩ qD qF))
 try simp only [dq] at h21
 have hgo : goF os p.1 = some o := by rw [ho]; exact getE_0 (by rw [← he]; exact Decidable.not_not.1 h21)
 refine zq (z8 (ze (y7 (clsL [1, 1, 1, 1, 1, 1, 2, 1, 2]) qk ?_)))
 refine z9 0 R R (E R R (z7 (z9 1 R R (zg R fo73_0 R ?_))))
 refine z7 (z9 2 R R (zx R zI R qN ?_))
 refine z7 (z9 3 R R (E R R (z7 (z9 4 R R (zg R fo73_0 R ?_)))))
 refine z7 (z9 5 R R (zx R zI R qN ?_))
 refine z7 (zi 6 R (L.lookup1 (kenc := aK) (venc := iK) (l := ml) (k := p.1) R xd (yo yf zX sc5) zv3 R R qM ?_))
 refine zE (t := 28) (u := .int .i64 (val0 (ml) (p.1))) R (by unfold val0; cases look (ml) (p.1) <;> rfl) ?_
 refine zh R qD ?_
 refine z9 7 R R (L.maxI R R R ?_)
 refine z7 (zi 8 R (xQ (kenc := aK) (venc := iK) (l := ml) (k := p.1) (v := max (val0 ml p.1) 1) xd (yo yf zX sc5) R R R R qP ?_))
 refine zh R qD ?_
 refine zN qk ?_
 obtain ⟨v1, hv1⟩ : ∃ v, v = max (val0 ml p.1) 1 := ⟨_, rfl⟩
 rw [← hv1]
 refine z8 (O (zg R fo88_2 R ?_))
 refine zf R sc9 R qC ?_
 refine zp R (ev1 R) qD qS (nparse_spec (s := o.2.2) jO) ?_
 rintro _ _ _ ⟨ka, kn, kc, rfl, hkn, rfl, rfl⟩
 refine zm qA qA ?_
 have hz8 := nodR_len o.2.2
 have hzi := nodR_in o.2.2
 have hzo := @nodR_ok o.2.2
 obtain ⟨z, hz⟩ : ∃ z, z = nodR o.2.2 := ⟨_, rfl⟩
 rw [← hz] at hkn hz8 hzi hzo ⊢
 refine E R R (zr R R R (zr R R R (zC R ze266 (fun b10 => ?_))))
 refine zz ag266 R R qL qO qU qW ?_
 refine V R R (zu (zO (A := cl b10 266 [.int .i64 (z.1 : Int), .slice ka kn kc]) qP ?_))
 refine z8 (ze (ze (yx (fun K' D' M' => ∃ (w : Bool), (w = true ↔ ¬ (lv ≠ 0 ∧ o.1 = 2 ∧ z.2.2 = 0 ∧ ¬ 1 < v1)) ∧ K' = [(53, .bool w)] ∧ D' = [] ∧ M' = [mp sm aK iK (put ml p.1 v1)]) (M0 := [mp sm aK iK (put ml p.1 v1)]) (.c 0 R <| .c 3 R <| .c 5 R <| .c 10 R <| zd _) qS ?_ ?_)))
 ·refine zt (E R R (yi R R R (E R R (yT (t := 38) R (fun h1 => ?_) (fun h1 => ?_)))))
  ·try simp only [dq] at h1
   exact zw 38 true R R R R R jD (zw 38 true R R R R R jD (zw 38 true R R R R R jD (ym R R R (E R R (zw 43 true R R R R R jD (zw 43 true R R R R R jD (ym R R R (E R R (zw 47 true R R R R R jD (zw 47 true R R R R R jD (zw 47 true R R R R R jD (zw 47 true R R R R R jD (zw 47 true R R R R R jD (ym R R R (I (zK ⟨_, (by simp_all), R, R, R⟩ (.c 53 R <| zd _) (.c 0 R <| .c 3 R <| .c 5 R <| .c 10 R <| zd _) qD qD qF))))))))))))))))
  try simp only [dq] at h1
  refine zj 38 R R R (zg R fo88_0 R ?_)
  refine zj 38 R R R (zf R sc3 R qC ?_)
  refine zj 38 R R R (zZ R R R (yg R R R (E R R (yT (t := 43) R (fun h2 => ?_) (fun h2 => ?_)))))
  ·try simp only [dq] at h2
   exact zw 43 true R R R R R jD (zw 43 true R R R R R jD (ym R R R (E R R (zw 47 true R R R R R jD (zw 47 true R R R R R jD (zw 47 true R R R R R jD (zw 47 true R R R R R jD (zw 47 true R R R R R jD (ym R R R (I (zK ⟨_, (by simp_all), R, R, R⟩ (.c 53 R <| zd _) (.c 0 R <| .c 3 R <| .c 5 R <| .c 10 R <| zd _) qD qD qF)))))))))))
  try simp only [dq] at h2
  refine zj 43 R R R (E R R (zj 43 R R R (zZ R R R (yg R R R (E R R (yT (t := 47) R (fun h3 => ?_) (fun h3 => ?_)))))))
  ·try simp only [dq] at h3
   exact zw 47 true R R R R R jD (zw 47 true R R R R R jD (zw 47 true R R R R R jD (zw 47 true R R R R R jD (zw 47 true R R R R R jD (ym R R R (I (zK ⟨_, (by simp_all), R, R, R⟩ (.c 53 R <| zd _) (.c 0 R <| .c 3 R <| .c 5 R <| .c 10 R <| zd _) qD qD qF)))))))
  try simp only [dq] at h3
  refine zj 47 R R R (E R R (zj 47 R R R (zg R fo73_0 R ?_)))
  refine zj 47 R R R (zx R zI R qN ?_)
  refine zj 47 R R R (L.lookup1 (kenc := aK) (venc := iK) (l := put ml p.1 v1) (k := p.1) R xd (yo yf zX sc5) zv3 R R qM ?_)
  refine zE (t := 51) (u := .int .i64 (val0 (put ml p.1 v1) (p.1))) R (by unfold val0; cases look (put ml p.1 v1) (p.1) <;> rfl) ?_
  refine zE (t := 51) (u := .int .i64 v1) R (by rw [val0_put, if_pos R]) ?_
  exact zj 47 R R R (yy R R R (yg R R R (I (zK ⟨_, (by simp_all), R, R, R⟩ (.c 53 R <| zd _) (.c 0 R <| .c 3 R <| .c 5 R <| .c 10 R <| zd _) qD qD qF))))
 rintro _ _ _ ⟨w, hw, rfl, rfl, rfl⟩
 refine zM qA qA qA ?_
 refine z8 (zA R (fun h53 => ?_) (fun h53 => ?_))
 ·try simp only [dq] at h53
  exact zo (zL (yS (by simp) R ⟨_, R, .leaf hk hgo hz hv1 (hw.1 h53), R, R⟩ qD qF))
 try simp only [dq] at h53
 have hwt := bel_go hw h53 hv1
 have hz1 := chkN_0 (hzo hwt.2.2.1)
 refine zq (z8 (O (E R R (zg R fo73_0 R ?_))))
 refine zx R zI R qN ?_
 refine xQ (kenc := aK) (venc := iK) (l := put ml p.1 v1) (k := p.1) (v := 2) xd (yo yf zX sc5) R R R R qP ?_
 rw [put_put]
 refine I (O (zg R fo266_1 R ?_))
 refine zf R sc203 R qC ?_
 refine yb R xm R (E R R (I (zD (y8 (fun K' D' M' μ => ∃ (i : Nat) (mi : SnM), (i ≤ kn ∧ LpI os p lv z ml mi i) ∧ K' = [(60, .int .i64 (i : Int))] ∧ D' = [] ∧ M' = [mp sm aK iK mi] ∧ μ = kn - i) (.c 0 R <| .c 3 R <| .c 10 R <| .c 58 R <| .c 59 R <| zd _) (⟨0, put ml p.1 2, ⟨Nat.zero_le _, .start hk⟩, R, R, R, R⟩) (.c 60 R <| zd _) qD qS ?_))))
 rintro K1 D1 M1 m1 ⟨i, mi, ⟨hi, hI⟩, rfl, rfl, rfl, rfl⟩
 refine zM qA qA qA ?_
 refine O (zW R R R (I (ze (zA R (fun h61 => ?_) (fun h61 => ?_)))))
 ·try simp only [dq] at h61
  refine zq (z8 (ze (zD (ze ?_))))
  have hgi : z.2.1[i]? = some (gd z.2.1 i) := y9 jO
  obtain ⟨q, hq_⟩ : ∃ x, x = gd z.2.1 i := ⟨_, rfl⟩
  rw [← hq_] at hgi
  clear hq_
  have hgr : (z.2.1.map ptC)[i]? = some (ptC q) := yJ hgi
  have hq32 := q.1.2
  have hq33 := ptC_len q
  refine zt (yP (i := i) R xm sz73 R R qM jR qG (fun b62 o62 => ?_))
  refine zx R ag73 R (xl qM hq33) ?_
  refine zC R ze73 (fun b12 => ?_)
  refine zz ag73 R R qL qO qU qW ?_
  refine zu (zO (A := cl b12 73 (ptC q)) qP ?_)
  refine z8 ?_
  obtain ⟨j, hj⟩ : ∃ j : Nat, (z.1 : Int) - 1 = (j : Int) := ⟨z.1 - 1, by omega⟩
  have hIH := IH mi hI.ok (uop_lt hgo hwt.2.2.2 hI.op) j q jO
  refine zt (E R R (zx R ag73 R qN ?_))
  refine zg R fo266_0 R ?_
  refine zf R sc3 R qC ?_
  refine yt R R R jO ?_
  refine zE (t := 68) (u := .int .i64 (j : Int)) R (congrArg (Value.int .i64) hj) ?_
  refine E R R (zp R (ev4 R R R R) qD qS (hIH) ?_)
  rintro _ _ _ ⟨mr, rfl, hbp, rfl, rfl⟩
  refine zm qA qA ?_
  refine zu (zS (z8 (zt (zT R R R jO ?_))))
  exact E R R (I (zV ⟨i + 1, mr, ⟨by omega, hI.next hgi hgo hwt.1 hwt.2.1 hz hwt.2.2.1 (by rw [hj]; exact hbp)⟩, R, R, R, R⟩ qI (.c 60 R <| zd _) (.c 0 R <| .c 3 R <| .c 10 R <| .c 58 R <| .c 59 R <| zd _) qD qD qF))
 try simp only [dq] at h61
 obtain rfl : kn = i := by omega
 exact y4 (zG (zG (y5 (yS (by simp) R ⟨_, R, hI.fin jO hgo hz, R, R⟩ qD qF))))
theorem below_nat {ka bs br bd bb tn n : Nat} {k : Dk} {rs : List Rc} {os : List Ob} {sm : Nat} (hn : n ≤ 1000000) (hs : Shf os) (hol : os.length = n) (hos : osR rs = os) (kk : Nat) : ∀ ml : SnM, OkM ml → uop os ml = kk → ∀ (lv : Int) (p : Pt), -1 ≤ lv ∧ lv ≤ 8 → Spec Tryz.prog 191 [.iface 103 (.pointer (some ⟨ka, 0, none⟩)), .agg (ptC p).toArray, .int .i64 lv, .map (some sm)] [cl k.bd 51 [.pointer (some ⟨k.bf, 0, none⟩), .slice (some ⟨k.sb, 0, none⟩) k.n k.n, .map (some k.bl)]] [asA ka bs br bd bb k tn rs, mp sm aK iK ml] (fun v D' M' => ∃ mr : SnM, v = .tuple #[] ∧ BelP os p lv ml mr ∧ D' = [] ∧ M' = [asA ka bs br bd bb k tn rs, mp sm aK iK mr]) := by
 induction kk using Nat.strongRecOn with
 | ind kk ih => exact fun ml hk he lv p hl => below_step hn hs hl hk (fun mj hj hu j q h7 => ih _ jO mj hj rfl (j : Int) q jO) hol hos
theorem below_spec {ka bs br bd bb tn n : Nat} {k : Dk} {rs : List Rc} {os : List Ob} {sm : Nat} {p : Pt} {ml : SnM} (hn : n ≤ 1000000) (hs : Shf os) (hk : OkM ml) (hol : os.length = n) (hos : osR rs = os) : Spec Tryz.prog 191 [.iface 103 (.pointer (some ⟨ka, 0, none⟩)), .agg (ptC p).toArray, .int .i64 (-1), .map (some sm)] [cl k.bd 51 [.pointer (some ⟨k.bf, 0, none⟩), .slice (some ⟨k.sb, 0, none⟩) k.n k.n, .map (some k.bl)]] [asA ka bs br bd bb k tn rs, mp sm aK iK ml] (fun v D' M' => ∃ mr : SnM, v = .tuple #[] ∧ BelP os p (-1) ml mr ∧ D' = [] ∧ M' = [asA ka bs br bd bb k tn rs, mp sm aK iK mr]) := below_nat hn hs hol hos _ ml hk rfl (-1) p jD
end Cv
