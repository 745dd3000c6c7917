/- Numbers, strings, comparisons, conversions, slices of slices, literals. -/
import Derived.Test.YtgipbdffgfbedaaGreatDoorCA1
import Derived.Laws.Shifts
import Derived.Laws.BytesArg
import Derived.Laws.MakeOwn
import Derived.Laws.AppendOwn
set_option linter.all false
namespace Go.Abs
section
variable {X:Pr} {dfs:List Deferred} {w0:World} {S0:k8} {M0:Mp} {S:k8} {M:Mp} {w:World} {a:Act} {s:St}

theorem N6 (b:ByteArray):b.toList=b.data.toList:=ByteArray.toList_eq b

theorem b15 {P : Program} : ∀ (ks : List K3) (fs : List Field) (off : Nat) (xs ys : Array Value) (ds es : List D) (r : Bool), fs.length = ks.length → (∀ (i : Nat) (f : Field) (k : K3), fs[i]? = some f → ks[i]? = some k → f.name ≠ "_" ∧ f.offset = off + i ∧ k.is P f.type) →
  p9 S M w (xs.toList.drop off) ds→p9 S M w (ys.toList.drop off) es→C5 ks ds es=some r→(Op.eqFields 9999 xs ys fs).run P w=.ok r w
 | [],fs,off,xs,ys,ds,es,r,hl,_,hx,hy,he=>by
  have:fs=[]:=List.eq_nil_of_length_eq_zero hl
  subst this
  cases ds <;> cases es <;> simp [C5] at he
  subst he
  simp [Op.eqFields]
 | kd :: ks,fs,off,xs,ys,ds,es,r,hl,hf,hx,hy,he=>by
  cases fs with
  | nil=>simp at hl
  | cons f fs =>
  obtain ⟨hn,ho,ht⟩:=hf 0 f kd rfl rfl
  have hrest:∀ ds' es' r',p9 S M w (xs.toList.drop (off+1)) ds'→p9 S M w (ys.toList.drop (off+1)) es'→C5 ks ds' es'=some r'→(Op.eqFields 9999 xs ys fs).run P w=.ok r' w :=
   fun ds' es' r' h1 h2 h4=>b15 ks fs (off+1) xs ys ds' es' r' (by simpa using hl) (fun i g k hg hk=>by obtain ⟨a1,a2,a3⟩:=hf (i+1) g k hg hk;exact ⟨a1,oM,a3⟩) h1 h2 h4
  cases ds with
  | nil=>cases kd <;> simp [C5] at he
  | cons d ds =>
   cases es with
   | nil=>cases kd <;> cases d <;> simp [C5] at he
   | cons e es =>
    generalize hxd:xs.toList.drop off=xl at hx
    generalize hyd:ys.toList.drop off=yl at hy
    cases hx with
    | cons u _ us _ hu hus =>
     cases hy with
     | cons v _ vs _ hv hvs =>
      have gx:xs[off]?=some u:=by have:=congrArg (·[0]?) hxd;simpa using this
      have gy:ys[off]?=some v:=by have:=congrArg (·[0]?) hyd;simpa using this
      have dx:xs.toList.drop (off+1)=us:=by rw [← List.drop_drop,hxd];rfl
      have dy:ys.toList.drop (off+1)=vs:=by rw [← List.drop_drop,hyd];rfl
      have hpart:∀ (zs:Array Value) (z:Value),zs[off]?=some z→(part f.type zs f.offset).run P w=.ok z w:=fun zs z hz=>by
       have hag:a0y P f.type=some false:=by
        unfold a0y
        cases kd with
        | int=>obtain ⟨k,ht⟩:=ht;rw [ht];rfl
        | str=>rw [show P.underlying f.type=_ from ht];rfl
        | bool=>rw [show P.underlying f.type=_ from ht];rfl
       simp [part,W4 hag,ho,hz]
      have hfin:∀ (c r':Bool),(Op.equalIn 9999 f.type u v).run P w=.ok c w→C5 ks ds es=some r'→(Op.eqFields 9999 xs ys (f :: fs)).run P w=.ok (c && r') w:=fun c r' h1 h2=>by
       have h3:=hrest ds es r' (dx ▸ hus) (dy ▸ hvs) h2
       simp only [Op.eqFields,hn,ne_eq,not_false_eq_true,if_true,Sem.run_bind,hpart xs u gx,hpart ys v gy,Result.andThen_ok,h1]
       cases c <;> simp [h3]
      cases kd with
      | int =>
       cases hu with
       | int k n =>
        cases hv with
        | int k' m =>
         simp only [C5] at he
         split at he
         ·rename_i hk;subst hk
          obtain ⟨r',h2,rfl⟩:=Option.map_eq_some_iff.1 he
          obtain ⟨k0,ht⟩:=ht
          exact hfin _ _ (run_equalIn_int w 9998 f.type k k0 n m ht) h2
         ·cases he
        | _=>simp [C5] at he
       | _=>simp [C5] at he
      | str =>
       cases hu with
       | str b l hb =>
        cases hv with
        | str b' l' hb' =>
         simp only [C5] at he
         obtain ⟨r',h2,rfl⟩:=Option.map_eq_some_iff.1 he
         have:=run_equalIn_string w 9998 f.type b b' ht
         rw [N6,N6,hb,hb'] at this
         exact hfin _ _ this h2
        | _=>simp [C5] at he
       | _=>simp [C5] at he
      | bool =>
       cases hu with
       | bool b =>
        cases hv with
        | bool b' =>
         simp only [C5] at he
         obtain ⟨r',h2,rfl⟩:=Option.map_eq_some_iff.1 he
         exact hfin _ _ (run_equalIn_bool' w 9998 f.type b b' ht) h2
        | _=>simp [C5] at he
       | _=>simp [C5] at he

theorem b4e {t:TypeId}:∀ {l:List (TypeId × List K3)} {ks:List K3},a6z t l=some ks→(t,ks) ∈ l
 | [],_,h=>by simp [a6z] at h
 | x :: xs,ks,h=>by
  simp only [a6z] at h
  cases hb:Nat.beq x.1 t with
  | true =>
   rw [hb] at h
   injection h with h
   rw [← h,← Nat.eq_of_beq_eq_true hb]
   exact List.mem_cons_self
  | false=>rw [hb] at h;exact List.mem_cons_of_mem _ (b4e h)

theorem a5t (b:ByteArray):b.size=b.data.toList.length:=Array.length_toList.symm

theorem data_append (x y:ByteArray):(x ++ y).data.toList=x.data.toList ++ y.data.toList:=by
 rw [ByteArray.data_append];simp

theorem d49 (h:m8 X dfs w0 S0 M0 S M w a s) {nid:Nat} {o:Oper} {out:H2} (op:BinOp) (t:TypeId) (x y:Operand) (u:TypeId) (he:o.op=.binOp op t x y u) (ho:n9 X s nid o.op=some out) (hn:out.need=true):H5 X dfs w0 S0 M0 w a s ((execOp a.eval o).run X.P w) out:=by
 rw [he] at ho
 simp only [n9] at ho
 have h1:=h.eval x
 have h2:=h.eval y
 generalize hv1:a.eval x=v1 at h1
 generalize hv2:a.eval y=v2 at h2
 generalize s.eval x=d1 at ho h1
 generalize s.eval y=d2 at ho h2
 have hex:(execOp a.eval o)=(do let r ← (do eqGuard op t x y v1 v2;binOp op t v1 v2);pure (Next.value r)):=by simp only [execOp,he,hv1,hv2]
 rw [hex]
 unfold M8 at ho
 split at ho
 ·rename_i k n k' m
  cases h1
  cases h2
  split at ho
  ·rename_i hk;subst hk
   have hg:(eqGuard op t x y (.int k n) (.int k m)).run X.P w=.ok () w:=by cases op <;> simp [eqGuard]
   have key:∀ r v,(binOp op t (.int k n) (.int k m)).run X.P w=.ok v w→r=(Sem.run X.P (do let r ← (do eqGuard op t x y (.int k n) (.int k m);binOp op t (.int k n) (.int k m));pure (Next.value r)) w)→r=.ok (.value v) w:=fun r v h1 h2=>by
    rw [h2];simp only [Sem.run_bind,hg,Result.andThen_ok,h1,Sem.run_pure]
   cases op <;> simp only [] at ho
   case add=>rw [u9 ho];exact l8 h (key _ (.int k (k.wrap (n+m))) (by simp [binOp,Op.intArith]) rfl) (.int _ _)
   case sub=>rw [u9 ho];exact l8 h (key _ (.int k (k.wrap (n - m))) (by simp [binOp,Op.intArith]) rfl) (.int _ _)
   case mul=>rw [u9 ho];exact l8 h (key _ (.int k (k.wrap (n * m))) (by simp [binOp,Op.intArith]) rfl) (.int _ _)
   case quo=>rw [G0 ho] at hn ⊢;have hm:m ≠ 0:=by simpa using hn
             exact l8 h (key _ (.int k (k.wrap (n.tdiv m))) (by simp [binOp,Op.intDiv,hm]) rfl) (.int _ _)
   case rem=>rw [G0 ho] at hn ⊢;have hm:m ≠ 0:=by simpa using hn
             exact l8 h (key _ (.int k (n.tmod m)) (by simp [binOp,Op.intDiv,hm]) rfl) (.int _ _)
   case eql=>rw [u9 ho];exact l8 h (key _ (.bool (n == m)) (by simp [binOp,Op.intCmp]) rfl) (.bool _)
   case neq=>rw [u9 ho];exact l8 h (key _ (.bool (n != m)) (by simp [binOp,Op.intCmp]) rfl) (.bool _)
   case lss=>rw [u9 ho];exact l8 h (key _ (.bool (decide (n < m))) (by simp [binOp,Op.intCmp]) rfl) (.bool _)
   case leq=>rw [u9 ho];exact l8 h (key _ (.bool (decide (n≤m))) (by simp [binOp,Op.intCmp]) rfl) (.bool _)
   case gtr=>rw [u9 ho];exact l8 h (key _ (.bool (decide (n > m))) (by simp [binOp,Op.intCmp]) rfl) (.bool _)
   case geq=>rw [u9 ho];exact l8 h (key _ (.bool (decide (n ≥ m))) (by simp [binOp,Op.intCmp]) rfl) (.bool _)
   case shr =>
    rw [G0 ho] at hn ⊢
    have hm:m=1∧0≤n:=by simpa using hn
    obtain ⟨rfl,h0⟩:=hm
    refine l8 h (key _ (.int k (n.tdiv 2)) ?_ rfl) (.int _ _)
    have hb:min (Int.toNat 1) k.bits=1:=by cases k <;> rfl
    rw [Int.tdiv_eq_ediv_of_nonneg h0]
    simp only [binOp]
    rw [shift_shr_any k k n 1 dE,hb];rfl
   all_goals cases ho
  ·cases ho
 ·rename_i p q
  cases h1 with
  | str b1 _ e1 =>
  cases h2 with
  | str b2 _ e2 =>
  subst e1 e2
  have hg:(eqGuard op t x y (.string b1) (.string b2)).run X.P w=.ok () w:=by cases op <;> simp [eqGuard]
  cases op <;> simp only [] at ho
  case add =>
   rw [G0 ho] at hn ⊢
   have hm:b1.data.toList.length+b2.data.toList.length≤9223372036854775807:=by simpa using hn
   refine l8 h (v:=.string (b1 ++ b2)) ?_ (.str _ _ (data_append _ _))
   have hns:¬((b1.size+b2.size:Nat):Int) > IntKind.i64.max:=by
    rw [a5t,a5t]
    have:IntKind.i64.max=9223372036854775807:=dE
    omega
   simp only [Sem.run_bind,hg,Result.andThen_ok]
   simp only [binOp,Op.stringOp,hns,if_false]
   simp
  case eql =>
   rw [u9 ho]
   refine l8 h (v:=.bool (b1.toList == b2.toList)) ?_ (by rw [N6,N6];exact .bool _)
   simp only [Sem.run_bind,hg,Result.andThen_ok];simp [binOp,Op.stringOp]
  case neq =>
   rw [u9 ho]
   refine l8 h (v:=.bool (!(b1.toList == b2.toList))) ?_ (by rw [N6,N6];exact .bool _)
   simp only [Sem.run_bind,hg,Result.andThen_ok];simp [binOp,Op.stringOp]
  case lss =>
   rw [u9 ho]
   refine l8 h (v:=.bool (Op.bytesLess b1.toList b2.toList)) ?_ (by rw [N6,N6];exact .bool _)
   simp only [Sem.run_bind,hg,Result.andThen_ok];simp [binOp,Op.stringOp]
  all_goals cases ho
 ·rename_i p q
  cases h1
  cases h2
  have hg:(eqGuard op t x y (.bool p) (.bool q)).run X.P w=.ok () w:=by cases op <;> simp [eqGuard]
  split at ho
  ·rename_i hu
   rw [u9 ho]
   refine l8 h (v:=.bool (p == q)) ?_ (.bool _)
   simp only [Sem.run_bind,hg,Result.andThen_ok];simp [binOp,Op.equal,Op.maxDepth,run_equalIn_bool' w 9999 t p q hu]
  ·rename_i hu
   rw [u9 ho]
   refine l8 h (v:=.bool (!(p == q))) ?_ (.bool _)
   simp only [Sem.run_bind,hg,Result.andThen_ok];simp [binOp,Op.equal,Op.maxDepth,run_equalIn_bool' w 9999 t p q hu]
  ·cases ho
 ·rename_i xs ys
  cases h1 with
  | agg us _ hus =>
  cases h2 with
  | agg vs _ hvs =>
  split at ho
  ·rename_i ks hfind
   obtain ⟨fs,hu,hst,hgt,hsz,hff⟩:=X.eqOk t ks (b4e hfind)
   have hfo:X.P.fieldsOf t=fs:=by unfold Program.fieldsOf;rw [hu]
   have hg:(eqGuard op t x y (.agg us) (.agg vs)).run X.P w=.ok () w:=run_eqGuard_agg w op t x y us vs hgt
   have heq:∀ r,C5 ks xs ys=some r→(Op.equalIn 10000 t (.agg us) (.agg vs)).run X.P w=.ok r w:=fun r hr=>by
    rw [run_equalIn_struct w 9999 t us vs (by rw [hfo];exact hu) hst,hfo]
    exact b15 ks fs.toList 0 us vs xs ys r (by simpa using hsz) (fun i f k hf hk=>by
     have:=hff i f k (by simpa using hf) hk
     simpa using this) (by simpa using hus) (by simpa using hvs) hr
   split at ho
   ·rename_i r hr
    rw [u9 ho]
    refine l8 h (v:=.bool r) ?_ (.bool _)
    simp only [Sem.run_bind,hg,Result.andThen_ok];simp [binOp,Op.equal,Op.maxDepth,heq r hr]
   ·rename_i r hr
    rw [u9 ho]
    refine l8 h (v:=.bool (!r)) ?_ (.bool _)
    simp only [Sem.run_bind,hg,Result.andThen_ok];simp [binOp,Op.equal,Op.maxDepth,heq r hr]
   ·cases ho
  ·cases ho
 ·cases ho
end
section
variable {X:Pr} {dfs:List Deferred} {w0:World} {S0:k8} {M0:Mp} {S:k8} {M:Mp} {w:World} {a:Act} {s:St}

theorem b31:∀ {vs:List Value} {ds:List D} {l:List UInt8},p9 S M w vs ds→a2o ds=some l→∃ xs:List Int,vs=xs.map (Value.int .u8)∧l=xs.map fun n=>UInt8.ofNat n.toNat
 | _,_,l,.nil,h=>by simp [a2o] at h;exact ⟨[],rfl,by rw [h];rfl⟩
 | _,_,l,.cons v d vs ds hv hr,h=>by
  cases hv with
  | int k n =>
   cases k with
   | u8 =>
    simp only [a2o] at h
    obtain ⟨l',h1,rfl⟩:=Option.map_eq_some_iff.1 h
    obtain ⟨xs,e1,e2⟩:=b31 hr h1
    exact ⟨n :: xs,by rw [e1];rfl,by rw [e2];rfl⟩
   | _=>simp [a2o] at h
  | _=>simp [a2o] at h

theorem c8r (h:m8 X dfs w0 S0 M0 S M w a s) {nid:Nat} {o:Oper} {out:H2} (src dst:TypeId) (x:Operand) (he:o.op=.convert src dst x) (ho:n9 X s nid o.op=some out) (hn:out.need=true):H5 X dfs w0 S0 M0 w a s ((execOp a.eval o).run X.P w) out:=by
 rw [he] at ho
 simp only [n9,b09] at ho
 have h1:=h.eval x
 generalize hv:a.eval x=va at h1
 have hex:(execOp a.eval o)=(do let r ← convert src dst va;pure (Next.value r)):=by simp only [execOp,he,hv]
 rw [hex]
 split at ho
 ·rename_i d k k' n hs hd hx
  rw [u9 ho]
  rw [hx] at h1
  cases h1
  refine l8 h (v:=.int k (k.wrap n)) ?_ (.int _ _)
  simp only [Sem.run_bind,convert,run_underlying hs,run_underlying hd,Result.andThen_ok]
  cases d <;> simp [Conv.intToInt]
 ·rename_i k k' n hs hd hx
  rw [u9 ho]
  rw [hx] at h1
  cases h1
  refine l8 h (v:=.string (Utf8.encode n)) ?_ (.str _ _ rfl)
  simp [convert,run_underlying hs,run_underlying hd,Conv.intToString]
 ·rename_i l hs hd hx
  rw [u9 ho]
  rw [hx] at h1
  cases h1 with
  | str b _ hb =>
   refine l8 h (v:=.string b) ?_ (.str _ _ hb)
   simp [convert,run_underlying hs,run_underlying hd]
 ·rename_i e len ds c hs hd hx
  split at ho
  ·rename_i hu
   rw [G0 ho] at hn ⊢
   obtain ⟨hn,hbs⟩:=(Bool.and_eq_true _ _).mp hn
   have hn':ds.length=len:=Nat.eq_of_beq_eq_true hn
   have hb:=b7z hbs
   rw [hx] at h1
   cases h1 with
   | slice base _ cap vs _ _ hsl hr hc hl hb0 =>
    obtain ⟨xs,e1,e2⟩:=b31 hr hb
    have hlen:=hr.length
    rcases hsl with hsl | ⟨b,o',hbase,hsl⟩
    ·subst hsl
     have hl0:len=0:=by simp at hlen;omega
     subst hl0
     have hx0:xs=[]:=by cases xs with | nil=>rfl | cons _ _=>simp at e1
     subst hx0
     cases base with
     | none =>
      refine l8 h (v:=.string .empty) ?_ (.str _ _ (by rw [e2];rfl))
      simp [convert,run_underlying hs,run_underlying hd,run_underlying hu,Conv.bytesToString]
     | some ad =>
      refine l8 h (v:=.string .empty) ?_ (.str _ _ (by rw [e2];rfl))
      simp [convert,run_underlying hs,run_underlying hd,run_underlying hu,Conv.bytesToString,loadCells,loadCellsFrom]
    ·subst hbase
     refine l8 h (v:=.string (strOfNums xs)) ?_ (.str _ _ (by rw [e2];rfl))
     have:=run_convert_bytes_arg (P:=X.P) w src e hs hu b o' len cap xs (by rw [e1] at hlen;simp at hlen;omega) (fun i hi=>by
      have hxl:i < xs.length:=by rw [e1] at hlen;simp at hlen;omega
      refine (hsl i _ ?_).2
      rw [e1]
      simp [List.getD,List.getElem?_eq_getElem hxl]) dst hd
     simp [this]
  ·cases ho
 ·cases ho

theorem a6h (h:m8 X dfs w0 S0 M0 S M w a s) {df:Int} {x:Option Operand} {n:Int} (hx:J5 s df x=some n):(x=none∧n=df)∨∃ y k,x=some y∧a.eval y=.int k n:=by
 unfold J5 at hx
 cases x with
 | none=>injection hx with hx;exact .inl ⟨rfl,hx.symm⟩
 | some y =>
  simp only [] at hx
  split at hx
  ·rename_i k m hy
   injection hx with hx
   subst hx
   have h1:=h.at_ hy
   generalize hv:a.eval y=va at h1
   cases h1
   exact .inr ⟨y,k,rfl,hv⟩
  ·cases hx

theorem c1i (b:ByteArray) (i j:Nat):(b.extract i j).data.toList=(b.data.toList.take j).drop i:=by
 rw [ByteArray.data_extract,Array.toList_extract,List.extract_eq_take_drop,List.drop_take]

theorem b5i (h:m8 X dfs w0 S0 M0 S M w a s) {isS:Bool} {len cap:Nat} {lo hi:Option Operand} {x y:Int} (hlo:J5 s 0 lo=some x) (hhi:J5 s len hi=some y) (hb:0≤x∧x≤y∧y≤len) (hc:len≤cap) :
  (Instr.sliceBounds isS len cap (lo.map a.eval) (hi.map a.eval) none).run X.P w=.ok (x.toNat,y.toNat,cap) w:=by
 rcases a6h h hlo with ⟨rfl,rfl⟩ | ⟨l,kl,rfl,hl⟩ <;> rcases a6h h hhi with ⟨rfl,rfl⟩ | ⟨r,kr,rfl,hr⟩
 ·simp [Instr.sliceBounds]
 ·have h1:0≤y∧y≤(cap:Int):=oM
  simp [Instr.sliceBounds,Instr.sliceBound,asIntOf,hr,h1.1,h1.2]
 ·have h1:0≤x∧x≤(len:Int):=oM
  simp [Instr.sliceBounds,Instr.sliceBound,asIntOf,hl,h1.1,h1.2]
 ·have h1:0≤y∧y≤(cap:Int):=oM
  have h2:0≤x∧x≤((y.toNat:Nat):Int):=oM
  have h3:x≤max y 0:=oM
  simp [Instr.sliceBounds,Instr.sliceBound,asIntOf,hl,hr,h1.1,h1.2,h2.1,h3]

theorem d19 {base:Option Addr} {cap:Nat} {vs:List Value} {ds:List D} (hs:a5y S w base vs) (hr:p9 S s9 w vs ds) {i j m n:Nat} (hij:i≤j) (hjm:j≤m) (hmc:m≤cap) {c:V5} (hcap:c=.no∨(c=.exact∧m=j)) (hz:base=none→cap=0) :
  Rd S M w (.slice (if m=i then base else base.map (·.add (i * n))) (j - i) (m - i)) (.slice (j - i) ((ds.take (j * n)).drop (i * n)) c):=by
 refine .slice _ _ _ ((vs.take (j * n)).drop (i * n)) _ _ ?_ ((hr.take _).drop _) ?_ oM ?_
 ·by_cases hmi:m=i
  ·have:j=i:=oM
   subst this
   exact .inl (by simp)
  ·rw [if_neg hmi]
   rcases hs with hs | ⟨b,o',hb,hs⟩
   ·exact .inl (by rw [hs];simp)
   ·subst hb
    refine .inr ⟨b,o'+i * n,by simp [Z9],fun q v hq=>?_⟩
    rw [List.getElem?_drop,List.getElem?_take] at hq
    split at hq
    ·rw [Nat.add_assoc];exact hs _ _ hq
    ·cases hq
 ·rcases hcap with rfl | ⟨rfl,hm⟩
  ·trivial
  ·show m - i=j - i;omega
 ·intro hnone
  by_cases hmi:m=i
  ·omega
  ·rw [if_neg hmi] at hnone
   cases base with
   | none=>have:=hz rfl;omega
   | some ad=>simp at hnone

theorem d5d (h:m8 X dfs w0 S0 M0 S M w a s) {nid:Nat} {o:Oper} {out:H2} (t:TypeId) (x:Operand) (lo hi mx:Option Operand) (he:o.op=.slice t x lo hi mx) (ho:n9 X s nid o.op=some out) (hn:out.need=true):H5 X dfs w0 S0 M0 w a s ((execOp a.eval o).run X.P w) out:=by
 rw [he] at ho
 simp only [n9,a4p] at ho
 have h1:=h.eval x
 generalize hv:a.eval x=va at h1
 have hex:(execOp a.eval o)=(do let r ← Instr.sliceAt t va (lo.map a.eval) (hi.map a.eval) (mx.map a.eval);pure (Next.value r)):=by simp only [execOp,he,hv]
 rw [hex]
 split at ho
 ·rename_i l hu hx
  split at ho
  ·rename_i p q hp hq
   rw [G0 ho] at hn ⊢
   have hn':0≤p∧p≤q∧q≤l.length:=by simpa using hn
   rw [hx] at h1
   cases h1 with
   | str b _ hb =>
    have hsz:b.size=l.length:=by rw [a5t,hb]
    refine l8 h (v:=.string (b.extract p.toNat q.toNat)) ?_ (.str _ _ (by rw [c1i,hb]))
    have hbd:=b5i (isS:=false) h (len:=b.size) (cap:=b.size) hp (by rw [hsz];exact hq) (by rw [hsz];exact hn') (Nat.le_refl _)
    simp [Instr.sliceAt,Instr.slice,run_underlying hu,hbd]
  ·cases ho
 ·rename_i e len ds c hu hx
  split at ho
  ·rename_i p q n hp hq hz
   rw [G0 ho] at hn ⊢
   have hn':0≤p∧p≤q∧q≤len:=by simpa using hn
   rw [hx] at h1
   cases h1 with
   | slice base _ cap vs _ _ hsl hr hc hl hb0 =>
    have hbd:=b5i (isS:=true) h (len:=len) (cap:=cap) hp hq hn' hl
    refine l8 h (v:=.slice (if cap=p.toNat then base else base.map (·.add (p.toNat * n))) (q.toNat - p.toNat) (cap - p.toNat)) ?_ (d19 hsl hr oM oM (Nat.le_refl _) (.inl rfl) hb0)
    simp [Instr.sliceAt,Instr.slice,run_underlying hu,hbd,F9 hz]
  ·cases ho
 ·rename_i e len ds c m hu hx
  split at ho
  ·rename_i p hh kc cc n hp hm hz
   split at ho
   ·rename_i kb q hq
    rw [G0 ho] at hn ⊢
    have hn':0≤p∧p≤q∧q≤len∧q=cc:=by simpa using hn
    obtain ⟨n1,n2,n3,n4⟩:=hn'
    subst n4
    rw [hx] at h1
    cases h1 with
    | slice base _ cap vs _ _ hsl hr hc hl hb0 =>
     have e1:=h.at_ hm
     have e2:=h.at_ hq
     generalize hv1:a.eval m=v1 at e1
     generalize hv2:a.eval hh=v2 at e2
     cases e1
     cases e2
     have g1:0≤q∧q≤(cap:Int):=oM
     have g2:q≤max q 0:=oM
     have g3:p≤max q 0:=oM
     have hbd:(Instr.sliceBounds true len cap (lo.map a.eval) (some (.int kb q)) (some (.int kc q))).run X.P w=.ok (p.toNat,q.toNat,q.toNat) w:=by
      rcases a6h h hp with ⟨rfl,rfl⟩ | ⟨l,kl,rfl,hl'⟩
      ·simp [Instr.sliceBounds,Instr.sliceBound,asIntOf,g1.1,g1.2,g2]
      ·simp [Instr.sliceBounds,Instr.sliceBound,asIntOf,g1.1,g1.2,g2,g3,hl',n1]
     refine l8 h (v:=.slice (if q.toNat=p.toNat then base else base.map (·.add (p.toNat * n))) (q.toNat - p.toNat) (q.toNat - p.toNat)) ?_ (d19 hsl hr oM (Nat.le_refl _) oM (.inr ⟨rfl,rfl⟩) hb0)
     simp only [Option.map_some,hv1,hv2]
     simp [Instr.sliceAt,Instr.slice,run_underlying hu,hbd,F9 hz]
   ·cases ho
  ·cases ho
 ·cases ho
end
section
variable {X:Pr} {dfs:List Deferred} {w0:World} {S0:k8} {M0:Mp} {S:k8} {M:Mp} {w:World} {a:Act} {s:St}

theorem a04 {P:Program} {o:Oper} {b:Builtin} {args:Array Operand} {ts:Array TypeId} (he:o.op=.call { callee:=.builtin b,args:=args,argTypes:=ts }) :
  ∃ cs,(execOp a.eval o).run P w=(builtin b ts o.type cs (args.map a.eval)).run P w :=
 ⟨args.map fun | .const _=>true | _=>false,by simp only [execOp,he,resolve,Sem.run_bind,Sem.run_pure,Result.andThen_ok,invoke];rfl⟩

theorem e3b (h:m8 X dfs w0 S0 M0 S M w a s) {o:Oper} {out:H2} (x:Operand) (t:TypeId) (he:o.op=.call { callee:=.builtin .len,args:=#[x],argTypes:=#[t] })
  (ho:(match X.P.underlying t,s.eval x with
   | some .string,.str l=>r0 (.int .i64 l.length)
   | some (.slice _),.slice n _ _=>r0 (.int .i64 n)
   | some (.slice _),.bslice _ n=>r0 (.int .i64 n)
   | _,_=>none)=some out):H5 X dfs w0 S0 M0 w a s ((execOp a.eval o).run X.P w) out:=by
 obtain ⟨cs,hrun⟩:=a04 (a:=a) (w:=w) (P:=X.P) he
 rw [hrun]
 split at ho
 ·rename_i l hu hx
  rw [u9 ho]
  have h1:=h.at_ hx
  generalize hv:a.eval x=va at h1
  cases h1 with
  | str b _ hb =>
   refine l8 h (v:=.int .i64 b.size) (by simp [builtin,Builtin.len_,run_underlying hu,hv,goInt]) ?_
   rw [a5t,hb];exact .int _ _
 ·rename_i n ds c hu hx
  rw [u9 ho]
  have h1:=h.at_ hx
  generalize hv:a.eval x=va at h1
  cases h1 with
  | slice base _ cap vs _ _ hsl hr hc hl hb0=>exact l8 h (v:=.int .i64 n) (by simp [builtin,Builtin.len_,run_underlying hu,hv,goInt]) (.int _ _)
 ·rename_i id n hu hx
  rw [u9 ho]
  have h1:=h.at_ hx
  generalize hv:a.eval x=va at h1
  cases h1 with
  | bslice _ _ b c hm=>exact l8 h (v:=.int .i64 n) (by simp [builtin,Builtin.len_,run_underlying hu,hv,goInt]) (.int _ _)
 ·cases ho

theorem e3c (h:m8 X dfs w0 S0 M0 S M w a s) {o:Oper} {out:H2} (x y:Operand) (ts:Array TypeId) (he:o.op=.call { callee:=.builtin .max,args:=#[x,y],argTypes:=ts })
  (ho:(match s.eval x,s.eval y with
   | .int k a,.int _ b=>r0 (.int k (if b > a then b else a))
   | _,_=>none)=some out):H5 X dfs w0 S0 M0 w a s ((execOp a.eval o).run X.P w) out:=by
 obtain ⟨cs,hrun⟩:=a04 (a:=a) (w:=w) (P:=X.P) he
 rw [hrun]
 split at ho
 ·rename_i k n k' m hx hy
  rw [u9 ho]
  have h1:=h.at_ hx
  have h2:=h.at_ hy
  generalize hv:a.eval x=va at h1
  generalize hv2:a.eval y=vb at h2
  cases h1
  cases h2
  exact l8 h (v:=.int k (if m > n then m else n)) (by simp [builtin,Builtin.max_,Builtin.max2,hv,hv2]) (.int _ _)
 ·cases ho

theorem e3d (h:m8 X dfs w0 S0 M0 S M w a s) {o:Oper} {out:H2} (x y:Operand) (ts:Array TypeId) (he:o.op=.call { callee:=.builtin .min,args:=#[x,y],argTypes:=ts })
  (ho:(match s.eval x,s.eval y with
   | .int k a,.int _ b=>r0 (.int k (if b < a then b else a))
   | _,_=>none)=some out):H5 X dfs w0 S0 M0 w a s ((execOp a.eval o).run X.P w) out:=by
 obtain ⟨cs,hrun⟩:=a04 (a:=a) (w:=w) (P:=X.P) he
 rw [hrun]
 split at ho
 ·rename_i k n k' m hx hy
  rw [u9 ho]
  have h1:=h.at_ hx
  have h2:=h.at_ hy
  generalize hv:a.eval x=va at h1
  generalize hv2:a.eval y=vb at h2
  cases h1
  cases h2
  exact l8 h (v:=.int k (if m < n then m else n)) (by simp [builtin,Builtin.min_,Builtin.min2,hv,hv2]) (.int _ _)
 ·cases ho

theorem d36 (us:Array Value) (cells:Array Value) (off:Nat) (hl:off+us.size≤cells.size) :
  (us.zipIdx.foldl (fun cs (p:Value × Nat)=>cs.setIfInBounds (off+p.2) p.1) cells).toList=cells.toList.take off ++ us.toList ++ cells.toList.drop (off+us.size):=by
 have key:∀ (l:List Value) (k:Nat) (cs:Array Value),off+k+l.length≤cs.size →
   ((l.zipIdx k).foldl (fun cs (p:Value × Nat)=>cs.setIfInBounds (off+p.2) p.1) cs).toList=cs.toList.take (off+k) ++ l ++ cs.toList.drop (off+k+l.length):=by
  intro l
  induction l with
  | nil=>intro k cs _;simp
  | cons v l ih =>
   intro k cs hcs
   simp only [List.zipIdx_cons,List.foldl_cons]
   rw [ih (k+1) _ (by simp at hcs ⊢;omega)]
   rw [Array.toList_setIfInBounds]
   have hlt:off+k < cs.toList.length:=by simp at hcs ⊢;omega
   have e1:(cs.toList.set (off+k) v).take (off+(k+1))=cs.toList.take (off+k) ++ [v]:=by
    rw [show off+(k+1)=off+k+1 by omega,List.take_succ_eq_append_getElem (by simpa using hlt)]
    simp [List.take_set_of_le]
   have e2:(cs.toList.set (off+k) v).drop (off+(k+1)+l.length)=cs.toList.drop (off+k+(l.length+1)):=by
    rw [List.drop_set_of_lt oM];congr 1;omega
   rw [e1,e2]
   simp
 have:=key us.toList 0 cells (by simpa using hl)
 simp only [Nat.add_zero,Array.length_toList] at this
 rw [← this,← Array.foldl_toList]
 congr 2
 simp [Array.toList_zipIdx]

theorem b24 (h:m8 X dfs w0 S0 M0 S M w a s) {pl:Nat→Option (Nat × Nat)}:∀ (parts:List (Nat × Operand)) (cells:Array Value) (ds ds':List D),p9 S M w cells.toList ds →
  a2a pl ds (parts.map fun p=>(p.1,s.eval p.2))=some ds'→∃ cells',Instr.fill pl cells (parts.map fun p=>(p.1,a.eval p.2))=some cells'∧p9 S M w cells'.toList ds'
 | [],cells,ds,ds',hr,hf=>by simp only [List.map_nil,a2a] at hf;injection hf with hf;exact ⟨cells,rfl,hf ▸ hr⟩
 | (i,x) :: rest,cells,ds,ds',hr,hf=>by
  simp only [List.map_cons,a2a] at hf
  cases hp:pl i with
  | none=>rw [hp] at hf;cases hf
  | some p =>
   obtain ⟨off,size⟩:=p
   rw [hp] at hf
   simp only [] at hf
   generalize hcd:((s.eval x).ok && ((s.eval x).cells.length == size) && Nat.ble (off+size) ds.length)=cd at hf
   cases cd with
   | false=>cases hf
   | true =>
    simp only [Bool.and_eq_true] at hcd
    obtain ⟨⟨k1,k2⟩,k3⟩:=hcd
    have k2':(s.eval x).cells.length=size:=by simpa using k2
    have k3':off+size≤ds.length:=Nat.le_of_ble_eq_true k3
    have hcells:=(h.eval x).cells (c2j k1)
    have hl:(a.eval x).cells.size=size:=by have:=hcells.length;simp at this;omega
    have hcl:cells.size=ds.length:=by simpa using hr.length
    have hfs:=d36 (a.eval x).cells cells off oM
    have hnew:=a6i off hr hcells (by simp;omega)
    simp only [Array.length_toList] at hnew
    rw [← hfs] at hnew
    obtain ⟨c',e1,e2⟩:=b24 h rest _ _ ds' hnew hf
    refine ⟨c',?_,e2⟩
    simp only [List.map_cons,Instr.fill,hp]
    have hno:(decide ((a.eval x).cells.size ≠ size) || decide (off+(a.eval x).cells.size > cells.size))=false:=by simp;omega
    rw [hno]
    exact e1

theorem b5j {P:Program}:∀ (fs:List Field),(∀ f ∈ fs,(B7 P f.type).isSome=true) →
  (fs.mapM fun (f:Field)=>(do pure (f.offset,← sizeOf f.type):Sem (Nat × Nat))).run P w=.ok (fs.map fun f=>(f.offset,(B7 P f.type).getD 0)) w
 | [],_=>rfl
 | f :: fs,h=>by
  obtain ⟨n,hn⟩:=Option.isSome_iff_exists.1 (h f List.mem_cons_self)
  have ih:=b5j (P:=P) fs fun g hg=>h g (List.mem_cons_of_mem _ hg)
  simp only [List.mapM_cons,Sem.run_bind,F9 hn,Result.andThen_ok,Sem.run_pure,ih,List.map_cons,hn,Option.getD_some]

theorem d5a (h:m8 X dfs w0 S0 M0 S M w a s) {nid:Nat} {o:Oper} {out:H2} (t:TypeId) (parts:Array (Nat × Operand)) (he:o.op=.build t parts) (ho:n9 X s nid o.op=some out) (hn:out.need=true):H5 X dfs w0 S0 M0 w a s ((execOp a.eval o).run X.P w) out:=by
 rw [he] at ho
 simp only [n9] at ho
 split at ho
 ·rename_i fs z hu hz
  split at ho
  ·rename_i ds hf
   rw [G0 ho] at hn ⊢
   have hn':∀ f ∈ fs.toList,(B7 X.P f.type).isSome=true:=by
    have:=hn
    simp only [Array.all_eq_true_iff_forall_mem] at this
    exact fun f hf=>this f (by simpa using hf)
   obtain ⟨v,hv,rfl⟩:=b3m hz
   have hpl:∀ i:Nat,(fs.toList.map fun (f:Field)=>(f.offset,(B7 X.P f.type).getD 0)).toArray[i]?=(fs[i]?).bind fun (f:Field)=>(B7 X.P f.type).map fun n=>(f.offset,n):=fun i=>by
    simp only [List.getElem?_toArray,List.getElem?_map,Array.getElem?_toList]
    cases hfi:fs[i]? with
    | none=>rfl
    | some f =>
     obtain ⟨n,hn⟩:=Option.isSome_iff_exists.1 (hn' f (by simpa using Array.mem_of_getElem? hfi))
     simp [hn]
   obtain ⟨c',e1,e2⟩:=b24 h parts.toList v.cells _ ds (a40 _) hf
   refine l8 h (v:=.agg c') ?_ (.agg _ _ e2)
   have hm:=b5j (P:=X.P) (w:=w) fs.toList hn'
   have hm':(fs.mapM fun (f:Field)=>(do pure (f.offset,← sizeOf f.type):Sem (Nat × Nat))).run X.P w=.ok (fs.toList.map fun f=>(f.offset,(B7 X.P f.type).getD 0)).toArray w:=by
    rw [Array.mapM_eq_mapM_toList]
    simp only [Sem.run_map,hm,Result.andThen_ok]
   have hfun:(fun (x:Nat)=>(fs.toList.map fun (f:Field)=>(f.offset,(B7 X.P f.type).getD 0)).toArray[x]?)=(fun (i:Nat)=>(fs[i]?).bind fun (f:Field)=>(B7 X.P f.type).map fun n=>(f.offset,n)):=funext hpl
   have hparts:(parts.map fun p=>(p.1,a.eval p.2)).toList=parts.toList.map fun p=>(p.1,a.eval p.2):=by simp
   simp only [execOp,he,Instr.build,Sem.run_bind,hv,Result.andThen_ok,run_underlying hu,hm',hfun,hparts,e1,Sem.run_pure]
  ·cases ho
 ·cases ho

theorem b8r {v:Value} (n:Nat):p9 S M w ((Array.range n).map (v.cells[· % v.cells.size]!)).toList (a2j (v.cells.toList.map W1) n):=by
 have key:∀ l:List Nat,p9 S M w (l.map fun i=>v.cells[i % v.cells.size]!) (l.map fun i=>(v.cells.toList.map W1).getD (i % (v.cells.toList.map W1).length) .junk):=by
  intro l
  induction l with
  | nil=>exact .nil
  | cons i l ih =>
   refine .cons _ _ _ _ ?_ ih
   simp only [List.length_map,Array.length_toList]
   by_cases hlt:i % v.cells.size < v.cells.size
   ·have e1:v.cells[i % v.cells.size]! = v.cells[i % v.cells.size]:=by simp [hlt]
    rw [e1]
    simp only [List.getD_eq_getElem?_getD,List.getElem?_map,Array.getElem?_toList,Array.getElem?_eq_getElem hlt,Option.map_some,Option.getD_some]
    exact b66 _
   ·have e1:(v.cells.toList.map W1).getD (i % v.cells.size) .junk=.junk:=by
     simp [List.getD_eq_getElem?_getD,hlt]
    rw [e1];exact .junk _
 unfold a2j
 have:=key (List.range n)
 simpa using this

theorem d0t (h:m8 X dfs w0 S0 M0 S M w a s) {c:Array Value} {t:TypeId} {ds:List D} (hc:p9 S s9 w c.toList ds) {len:Nat} {r:Result Next} {b:Bool} {rs:List Nat}
  (hr:r=.ok (.value (.slice (some ⟨w.heap.size,0,none⟩) len len)) { w with heap:=w.heap.push (.cells c t) }):H5 X dfs w0 S0 M0 w a s r ⟨b,.slice len ds .exact,[],rs⟩:=by
 have h1:=h.push (.cells c t)
 have e:N4 S M w S M { w with heap:=w.heap.push (.cells c t) }:=.of_blocks fun b o hS=>by
  have:=h.within b o hS;simp [Array.getElem?_push];omega
 have h2:=h1.protect (fun b _=>b=w.heap.size) (fun b o hb=>by subst hb;exact ⟨h.keep.size,by simp⟩)
  (fun id ds b k hid hm o hb=>by have:=h.mlt _ _ _ hm;omega) (fun id l n b k hid hm o _ hb=>by have:=h.mlt _ _ _ hm;omega)
 refine ⟨_,_,_,M,_,hr,.inl rfl,h2,.slice _ _ _ c.toList _ _ (.inr ⟨w.heap.size,0,rfl,fun i v hi=>⟨.inr rfl,?_⟩⟩) ((hc.ext e.no).ext ⟨fun _ _ h=>.inl h,fun _ _ _=>rfl,fun _ _ h=>h⟩) rfl (Nat.le_refl _) (fun h=>by cases h)⟩
 unfold World.cell?
 simpa using hi

theorem b9m (h:m8 X dfs w0 S0 M0 S M w a s) {nid:Nat} {o:Oper} {out:H2} (t:TypeId) (len:Nat) (parts:Array (Nat × Operand)) (he:o.op=.buildSlice t len parts) (ho:n9 X s nid o.op=some out) (hn:out.need=true):H5 X dfs w0 S0 M0 w a s ((execOp a.eval o).run X.P w) out:=by
 rw [he] at ho
 simp only [n9] at ho
 split at ho
 ·rename_i e hu
  split at ho
  ·rename_i n z hs hz
   split at ho
   ·rename_i ds hf
    rw [G0 ho] at hn ⊢
    have hn':len * n≤16777216:=Nat.le_of_ble_eq_true hn
    obtain ⟨v,hv,rfl⟩:=b3m hz
    obtain ⟨c',e1,e2⟩:=b24 h parts.toList ((Array.range (len * n)).map (v.cells[· % v.cells.size]!)) _ ds (b8r _) hf
    refine d0t h (c:=c') (t:=e) (E5 (fun _ _=>U6 (O5.no _ _)) e2) ?_
    have hno:¬(len * n > 2 ^ 24):=oM
    have hparts:(parts.map fun p=>(p.1,a.eval p.2)).toList=parts.toList.map fun p=>(p.1,a.eval p.2):=by simp
    by_cases h0:len * n=0
    ·have e1':Instr.fill (fun i=>some (i * n,n)) ((Array.range (len * n)).map ((#[]:Array Value)[· % (#[]:Array Value).size]!)) (parts.toList.map fun p=>(p.1,a.eval p.2))=some c':=by
      rw [← e1];congr 1;rw [h0];simp [Array.range_zero']
     simp only [execOp,he,Instr.buildSlice,Sem.run_bind,run_underlying hu,Result.andThen_ok,F9 hs,hno,if_false,h0,if_true,Sem.run_pure,hparts,newRow,run_newObj]
     rw [h0] at e1'
     rw [if_neg oM]
     simp only [Sem.run_bind,Sem.run_pure,Result.andThen_ok,e1']
     simp
    ·simp only [execOp,he,Instr.buildSlice,Sem.run_bind,run_underlying hu,Result.andThen_ok,F9 hs,hno,if_false,h0,Sem.run_pure,hparts,hv,e1]
     simp [newRow]
   ·cases ho
  ·cases ho
 ·cases ho
end
section
variable {X:Pr} {dfs:List Deferred} {w0:World} {S0:k8} {M0:Mp} {S:k8} {M:Mp} {w:World} {a:Act} {s:St}

theorem b8t (h:m8 X dfs w0 S0 M0 S M w a s) {nid:Nat} (hf:s.heap[nid]?=some .free) {b k n L:Nat} {c:Array Value} {e:TypeId} (hb0:w0.heap.size≤b) (hc:w.heap[b]?=some (.cells c e (0,0)))
  (hcs:c.size=k * n) (hLk:L≤k) (hno:∀ i x c,s.heap[i]?=some x→x.live=true→M i ≠ some (b,c)) (hS:∀ o,S b o→o < L * n) {ds:List D} (hr:p9 S s9 w (c.toList.take (L * n)) ds) :
  ∃ S' M',N4 S M w S' M' w∧m8 X dfs w0 S0 M0 S' M' w a { s with heap:=s.heap.set nid (.tok L n) }∧Rd S' M' w (.slice (some ⟨b,0,none⟩) L k) (.slice L ds (.tok nid)):=by
 have hlt:b < w.heap.size:=(Array.getElem?_eq_some_iff.1 hc).1
 have h1:=h.protect (fun b' o=>b'=b∧o < L * n) (fun b' o hb=>by obtain ⟨rfl,_⟩:=hb;exact ⟨hb0,hlt⟩)
  (fun id ds b' k' hid hm o hb=>by obtain ⟨rfl,_⟩:=hb;exact hno id _ k' hid rfl hm) (fun id l n' b' k' hid hm o _ hb=>by obtain ⟨rfl,_⟩:=hb;exact hno id _ k' hid rfl hm)
 obtain ⟨e1,h2⟩:=h1.take (k:=k) hf hb0 hlt hno (x:=.tok L n) (by
  intro b' k' hm
  rw [K4] at hm
  injection hm with hm;injection hm with hm1 hm2
  subst hm1 hm2
  refine ⟨c,e,hc,hcs,fun o ho hS'=>?_⟩
  rcases hS' with hS' | ⟨_,hS'⟩
  ·have:=hS o hS';omega
  ·omega)
 refine ⟨_,_,⟨fun _ _ h=>.inl h,fun _ _ _=>rfl,e1.map⟩,h2,.slice _ _ _ (c.toList.take (L * n)) _ _ (.inr ⟨b,0,rfl,fun i v hi=>?_⟩) (hr.ext ⟨fun _ _ h=>.inl h,fun _ _ _=>rfl,fun _ _ h=>h⟩) (.inr ⟨b,K4 _ _ _,rfl⟩) hLk (fun h=>by cases h)⟩
 rw [List.getElem?_take] at hi
 split at hi
 ·rename_i hlt'
  refine ⟨.inr ⟨rfl,oM⟩,?_⟩
  unfold World.cell?
  rw [hc]
  simpa using hi
 ·cases hi
theorem b3k (h:m8 X dfs w0 S0 M0 S M w a s) {nid:Nat} (hf:s.heap[nid]?=some .free) {b k n L:Nat} {c:Array Value} {e:TypeId} (hb0:w0.heap.size≤b) (hc:w.heap[b]?=some (.cells c e (0,0)))
  (hcs:c.size=k * n) (hLk:L≤k) (hno:∀ i x c,s.heap[i]?=some x→x.live=true→M i ≠ some (b,c)) (hS:∀ o,S b o→o < L * n) {ds:List D} (hr:p9 S s9 w (c.toList.take (L * n)) ds) :
  ∃ S' M',m8 X dfs w0 S0 M0 S' M' w a { s with heap:=s.heap.set nid (.tok L n) }∧Rd S' M' w (.slice (some ⟨b,0,none⟩) L k) (.slice L ds (.tok nid)):=by
 obtain ⟨S',M',_,h1,h2⟩:=b8t h hf hb0 hc hcs hLk hno hS hr
 exact ⟨S',M',h1,h2⟩

theorem a8x {base:Option Addr} {vs:List Value} (hs:a5y S w base vs) {ad:Addr} (hb:base=some ad):∀ j v,vs[j]?=some v→w.cell? (ad.add j)=some v:=by
 intro j v hv
 rcases hs with hs | ⟨b,o,hb',hs⟩
 ·rw [hs] at hv;simp at hv
 ·rw [hb] at hb'
  injection hb' with hb'
  subst hb'
  rw [Z9]
  exact (hs j v hv).2

theorem d39 {P:Program} {t ty e:TypeId} {i:TypeInfo} {z:Value} (ht:P.underlying t=some (.slice e)) (hi:P.info? e=some i) (hz:i.zero=some z) (hzs:z.cells.size=i.size) {base:Option Addr} {len cap m cap2:Nat} {vs us:List Value} {ad:Addr}
  (hs:a5y S w base vs) (hvl:vs.length=len * i.size) (hb0:base=none→cap=0) (hlc:len≤cap) (hcells:∀ j v,us[j]?=some v→w.cell? (ad.add j)=some v) (hul:us.length=m * i.size)
  (hg:cap < len+m) (hroom:(len+m) * i.bytes≤G2) (hroom2:len+m≤G2) :
  ∃ (k:Nat) (c:Array Value) (d:Nat),(Builtin.append_ #[t,t] ty #[.slice base len cap,.slice (some ad) m cap2]).run P w=.ok (.slice (some ⟨w.heap.size,0,none⟩) (len+m) k) { w with heap:=w.heap.push (.cells c e),drawn:=d } ∧
   c.size=k * i.size∧len+m≤k∧c.toList.take ((len+m) * i.size)=vs ++ us:=by
 unfold G2 at hroom hroom2
 have hlen:(vs ++ us).length=(len+m) * i.size:=by rw [List.length_append,hvl,hul,Nat.add_mul]
 have fin:∀ old,∃ (k:Nat) (c:Array Value) (d:Nat),Result.ok (Value.slice (some ⟨w.heap.size,0,none⟩) (len+m) (grownCap w (len+m) old e)) (w.drew.alloc (.cells (vs.toArray ++ us.toArray ++ Builtin.zeroCells z.cells (grownCap w (len+m) old e - (len+m))) e)) =
   Result.ok (.slice (some ⟨w.heap.size,0,none⟩) (len+m) k) { w with heap:=w.heap.push (.cells c e),drawn:=d }∧c.size=k * i.size∧len+m≤k∧c.toList.take ((len+m) * i.size)=vs ++ us:=by
  intro old
  have hge:=grownCap_ge w (len+m) old e
  refine ⟨_,_,w.drawn+1,rfl,?_,hge,?_⟩
  ·simp only [Array.size_append,List.size_toArray,size_zeroCells,hzs,hvl,hul,← Nat.add_mul]
   congr 1
   omega
  ·simp only [Array.toList_append,List.append_assoc]
   rw [← List.append_assoc,← hlen]
   exact List.take_left
 cases base with
 | none =>
  have hc0:=hb0 rfl
  have hl0:len=0:=oM
  subst hc0 hl0
  have hv0:vs=[]:=List.eq_nil_of_length_eq_zero (by simpa using hvl)
  subst hv0
  have hr:=run_append_nil (P:=P) w t ty e i z ht hi hz ad m cap2 us hul hcells oM oM (by simp only [Nat.zero_add] at hroom;omega)
  obtain ⟨k,c,d,h1,h2⟩:=fin 0
  refine ⟨k,c,d,?_,h2⟩
  rw [← h1,hr]
  simp
 | some bd =>
  have hr:=run_append_grow (P:=P) w t ty e i z ht hi hz bd len cap vs hvl (a8x hs rfl) ad m cap2 us hul hcells hg oM (growslice_fits oM hroom)
  obtain ⟨k,c,d,h1,h2⟩:=fin cap
  exact ⟨k,c,d,hr.trans h1,h2⟩

theorem d5w {P:Program} {t ty e e':TypeId} {i:TypeInfo} (ht:P.underlying t=some (.slice e)) (hi:P.info? e=some i) {g len cap m cap2:Nat} {cur:Array Value} (hg:w.heap[g]?=some (.cells cur e' (0,0))) {ad:Addr} {us:List Value}
  (hcells:∀ j v,us[j]?=some v→w.cell? (ad.add j)=some v) (hul:us.length=m * i.size) (h1:∀ u ∈ us,u.oneCell'=true) (hroom:len+m≤cap) (hfit:len * i.size+us.length≤cur.size) :
  (Builtin.append_ #[t,t] ty #[.slice (some ⟨g,0,none⟩) len cap,.slice (some ad) m cap2]).run P w =
   .ok (.slice (some ⟨g,0,none⟩) (len+m) cap) (w.setRow g (cur.toList.take (len * i.size) ++ us ++ cur.toList.drop (len * i.size+us.length)).toArray):=by
 have hf:=run_firstCells_some (P:=P) w i.size m ad m cap2 us hul hcells
 have hst:=run_storeCells_at P g (len * i.size) e' us 0 cur w hg (by simpa using hfit) h1
 simp only [Nat.add_zero] at hst
 simp [Builtin.append_,run_underlying ht,sizeOf,typeInfo,hi,Builtin.lenOf,hroom,hf,Addr.add_lit,hst]

theorem b27 {P:Program} {t ty e:TypeId} {i:TypeInfo} (ht:P.underlying t=some (.slice e)) (hi:P.info? e=some i) {base base2:Option Addr} {len cap cap2:Nat} (hlc:len≤cap) :
  (Builtin.append_ #[t,t] ty #[.slice base len cap,.slice base2 0 cap2]).run P w=.ok (.slice base len cap) w:=by
 cases base <;> cases base2 <;> simp [Builtin.append_,run_underlying ht,sizeOf,typeInfo,hi,Builtin.lenOf,hlc,Builtin.firstCells,loadCells,loadCellsFrom,storeCells]

theorem d1u (h:m8 X dfs w0 S0 M0 S M w a s) {nid:Nat} {o:Oper} {out:H2} (x y:Operand) (t:TypeId) (he:o.op=.call { callee:=.builtin .append,args:=#[x,y],argTypes:=#[t,t] })
  (ho:a1x X.P s nid t (s.eval x) (s.eval y)=some out) (hn:out.need=true):H5 X dfs w0 S0 M0 w a s ((execOp a.eval o).run X.P w) out:=by
 obtain ⟨cs,hrun⟩:=a04 (a:=a) (w:=w) (P:=X.P) he
 rw [hrun]
 unfold a1x at ho
 have h1:=h.eval x
 have h2:=h.eval y
 generalize hv1:a.eval x=v1 at h1
 generalize hv2:a.eval y=v2 at h2
 split at ho
 ·rename_i e len ds c m es c2 hu hx hy
  rw [hx] at h1
  rw [hy] at h2
  split at ho
  ·rename_i n bt z hsz hby hz
   generalize hcd:(Nat.beq z.length n && Nat.blt 0 n && C1 s nid)=cd at ho
   cases cd with
   | false=>cases ho
   | true =>
   simp only [cond_true] at ho
   simp only [Bool.and_eq_true] at hcd
   obtain ⟨⟨k1,k2⟩,k3⟩:=hcd
   have hf:s.heap[nid]?=some .free:=by
    unfold C1 at k3;split at k3
    ·assumption
    ·cases k3
   have hnpos:0 < n:=by simpa [Nat.blt_eq] using k2
   obtain ⟨i,hi,rfl⟩:=b8w hby
   have hisz:i.size=n:=by unfold B7 at hsz;rw [hi] at hsz;injection hsz
   obtain ⟨zv,hzi,rfl⟩:∃ zv,i.zero=some zv∧z=zv.cells.toList.map W1:=by
    unfold S4 at hz;rw [hi] at hz
    simp only [Option.bind_some] at hz
    cases hq:i.zero with
    | none=>rw [hq] at hz;cases hz
    | some zv=>rw [hq] at hz;injection hz with hz;exact ⟨zv,rfl,hz.symm⟩
   have hzs:zv.cells.size=i.size:=by have:=Nat.eq_of_beq_eq_true k1;simp at this;omega
   subst hisz
   cases h1 with
   | slice base _ cap vs _ _ hsl hr hc hl hb0 =>
   cases h2 with
   | slice base2 _ cap2 us _ _ hsl2 hr2 hc2 hl2 hb02 =>
   have hb:∀ r,r=(Builtin.append_ #[t,t] o.type #[.slice base len cap,.slice base2 m cap2]).run X.P w→(builtin .append #[t,t] o.type cs (#[x,y].map a.eval)).run X.P w=r.andThen fun v w'=>.ok (.value v) w':=fun r hr=>by
    rw [hr];simp [builtin,hv1,hv2]
   -- what is asked
   have hask:∀ q:Bool,(decide ((len+m) * i.bytes≤G2∧len+m≤G2∧ds.length=len * i.size∧es.length=m * i.size) && es.all D.one)=q→q=true →
     ((len+m) * i.bytes≤G2∧len+m≤G2∧ds.length=len * i.size∧es.length=m * i.size)∧es.all D.one=true:=fun q hq hq'=>by
    rw [hq',Bool.and_eq_true] at hq
    exact ⟨of_decide_eq_true hq.1,hq.2⟩
   -- the new row,in a state s1 in which the old token is gone
   have grow:∀ (s1:St),m8 X dfs w0 S0 M0 S M w a s1→s1.heap[nid]?=some .free→((len+m) * i.bytes≤G2∧len+m≤G2∧ds.length=len * i.size∧es.length=m * i.size)→cap < len+m →
     ∃ v S' M' w',(Builtin.append_ #[t,t] o.type #[.slice base len cap,.slice base2 m cap2]).run X.P w=.ok v w'∧m8 X dfs w0 S0 M0 S' M' w' a { s1 with heap:=s1.heap.set nid (.tok (len+m) i.size) }∧Rd S' M' w' v (.slice (len+m) (ds ++ es) (.tok nid)):=by
    intro s1 hs1 hf1 hq hlt
    have hmpos:0 < m:=oM
    have hul:us.length=m * i.size:=by rw [hr2.length];exact hq.2.2.2
    have hb2:∃ ad,base2=some ad:=by
     cases base2 with
     | some ad=>exact ⟨ad,rfl⟩
     | none=>have:=hb02 rfl;omega
    obtain ⟨ad,rfl⟩:=hb2
    obtain ⟨k,c',d,e1,e2,e3,e4⟩:=d39 (P:=X.P) (w:=w) (ty:=o.type) (cap2:=cap2) hu hi hzi hzs hsl (by rw [hr.length];exact hq.2.2.1) hb0 hl (a8x hsl2 rfl) hul hlt hq.1 hq.2.1
    have hs2:m8 X dfs w0 S0 M0 S M { w with heap:=w.heap.push (.cells c' e),drawn:=d } a s1:=hs1.world rfl rfl rfl (by simp) fun b hb=>by simp [Array.getElem?_push];omega
    have ex:N4 S M w S M { w with heap:=w.heap.push (.cells c' e),drawn:=d }:=.of_blocks fun b o hS=>by
     have:=h.within b o hS;simp [Array.getElem?_push];omega
    obtain ⟨S',M',g1,g2⟩:=b3k hs2 hf1 (b:=w.heap.size) (k:=k) (n:=i.size) (L:=len+m) (c:=c') (e:=e) h.keep.size (by simp) e2 e3 (fun j x c hj hx hm=>by have:=h.mlt _ _ _ hm;omega)
     (fun o hS=>by have:=h.within _ o hS;omega) (ds:=ds ++ es) (by rw [e4];exact (hr.append hr2).ext ex.no)
    exact ⟨_,S',M',_,e1,g1,g2⟩
   cases c with
   | no=>cases ho
   | fr z=>cases ho
   | exact =>
     injection ho with ho
     subst ho
     obtain ⟨hq,_⟩:=hask _ rfl hn
     have hcap:cap=len:=hc
     by_cases hm0:m=0
     ·subst hm0
      have hes:es=[]:=List.eq_nil_of_length_eq_zero (by simpa using hq.2.2.2)
      refine ⟨.value (.slice base len cap),_,S,M,w,by rw [hb _ rfl,b27 hu hi hl];rfl,.inl rfl,h.blank hf,?_⟩
      rw [hes,List.append_nil]
      exact .slice _ _ _ vs _ _ hsl hr (.inl hcap) hl hb0
     ·obtain ⟨v,S',M',w',e1,e2,e3⟩:=grow s h hf hq oM
      exact ⟨.value v,v,S',M',w',by rw [hb _ rfl,e1];rfl,.inl rfl,e2,e3⟩
   | tok id =>
    simp only [] at ho
    split at ho
    ·rename_i l k hid
     injection ho with ho
     subst ho
     simp only [Bool.and_eq_true] at hn
     obtain ⟨⟨n1,n2⟩,n3⟩:=hn
     have n2':l=len:=Nat.eq_of_beq_eq_true n2
     have n3':k=i.size:=Nat.eq_of_beq_eq_true n3
     subst n2' n3'
     obtain ⟨hq,hone⟩:=hask _ rfl (by rw [Bool.and_eq_true];exact n1)
     have hne:id ≠ nid:=by intro e1;subst e1;rw [hid] at hf;cases hf
     have hk:=h.kill hid rfl
     have hfk:(s.heap.set id .dead)[nid]?=some .free:=by rw [List.getElem?_set_ne hne];exact hf
     have hnob:∀ b k,M id=some (b,k)→∀ (j:Nat) (x:o9) (c:Nat),(s.heap.set id .dead)[j]?=some x→x.live=true→M j ≠ some (b,c):=by
      intro b k hm j bx c hj hbx hmj
      by_cases hji:j=id
      ·rw [hji,List.getElem?_set_self (List.getElem?_eq_some_iff.1 hid).1] at hj
       injection hj with hj
       rw [← hj] at hbx;cases hbx
      ·rw [List.getElem?_set_ne (fun e=>hji e.symm)] at hj
       exact hji (h.heap.apart j id bx _ b c k hj hid hbx rfl hmj hm)
     have hnone:∀ qb:Bool,m=0→H5 X dfs w0 S0 M0 w a s ((builtin .append #[t,t] o.type cs (#[x,y].map a.eval)).run X.P w) ⟨qb,.slice (l+m) (ds ++ es) (.tok nid),[(id,.dead),(nid,.tok (l+m) i.size)],[id,nid]⟩:=by
      intro qb hm0
      subst hm0
      have hes:es=[]:=List.eq_nil_of_length_eq_zero (by simpa using hq.2.2.2)
      rcases hc with hc | ⟨b,hm,hbase⟩
      ·refine ⟨.value (.slice base l cap),_,S,M,w,by rw [hb _ rfl,b27 hu hi hl];rfl,.inl rfl,hk.blank hfk,?_⟩
       rw [hes,List.append_nil]
       exact .slice _ _ _ vs _ _ hsl hr (.inl hc) hl hb0
      ·obtain ⟨c',e',g1,g2,g3⟩:=h.heap.box _ _ hid b cap hm
       obtain ⟨_,g4⟩:=hk.take (k:=cap) hfk (h.tnew id _ _ b cap hid hm) (h.mlt _ _ _ hm) (hnob b cap hm) (x:=.tok (l+0) i.size) (by
        intro b' k' hm'
        rw [K4] at hm'
        injection hm' with hm';injection hm' with hm1 hm2
        subst hm1 hm2
        exact ⟨c',e',g1,g2,g3⟩)
       refine ⟨.value (.slice base l cap),_,S,_,w,by rw [hb _ rfl,b27 hu hi hl];rfl,.inl rfl,g4,?_⟩
       rw [hes,List.append_nil]
       have ex:N4 S M w S (upd M nid (b,cap)) w:=⟨fun _ _ h=>h,fun _ _ _=>rfl,fun j y hj=>by
        rw [a7n];exact hj;intro e1;rw [e1] at hj;have:=h.heap.box nid _ hf;rw [this] at hj;cases hj⟩
       exact .slice _ _ _ vs _ _ (hsl.ext ex) (hr.ext ex.no) (.inr ⟨b,K4 _ _ _,hbase⟩) hl hb0
     by_cases hm0:m=0
     ·exact hnone _ hm0
     ·by_cases hfit:cap < l+m
      ·obtain ⟨v,S',M',w',e1,e2,e3⟩:=grow _ hk hfk hq hfit
       exact ⟨.value v,v,S',M',w',by rw [hb _ rfl,e1];rfl,.inl rfl,e2,e3⟩
      ·rcases hc with hc | ⟨b,hm,hbase⟩
       ·omega
       ·subst hbase
        obtain ⟨c',e',g1,g2,g3⟩:=h.heap.box _ _ hid b cap hm
        have hul:us.length=m * i.size:=by rw [hr2.length];exact hq.2.2.2
        have hvl:vs.length=l * i.size:=by rw [hr.length];exact hq.2.2.1
        obtain ⟨ad,rfl⟩:∃ ad,base2=some ad:=by
         cases base2 with
         | some ad=>exact ⟨ad,rfl⟩
         | none=>have:=hb02 rfl;omega
        have hfit':l * i.size+us.length≤c'.size:=by rw [hul,g2,← Nat.add_mul];exact Nat.mul_le_mul_right _ oM
        have hr1:=d5w (P:=X.P) (w:=w) (ty:=o.type) (cap2:=cap2) (len:=l) (cap:=cap) (m:=m) hu hi g1 (a8x hsl2 rfl) hul (b69 hr2 hone) oM hfit'
        generalize hnew:(c'.toList.take (l * i.size) ++ us ++ c'.toList.drop (l * i.size+us.length)).toArray=cn at hr1
        have hcn:cn.size=c'.size:=by rw [← hnew];simp;omega
        have hcnk:∀ q,q < l * i.size→cn[q]?=c'[q]?:=fun q hq'=>by
         rw [← hnew]
         simp only [List.getElem?_toArray,List.append_assoc]
         rw [List.getElem?_append_left (by simp;omega),List.getElem?_take_of_lt hq']
         simp
        obtain ⟨ex,hrow⟩:=h.row hid rfl hm g1 (c':=cn) (fun q hS=>hcnk q (by
          rcases Nat.lt_or_ge q (l * i.size) with h' | h'
          ·exact h'
          ·exact absurd hS (g3 q h'))) (.tok l i.size) (by
         intro b' k' hm'
         rw [hm] at hm'
         injection hm' with hm';injection hm' with hm1 hm2
         subst hm1 hm2
         exact ⟨cn,e',setRow_heap w b c' cn e' (0,0) g1,by rw [hcn];exact g2,g3⟩) (fun _=>rfl) (fun _ _ _=>h.tnew id _ _ b cap hid hm)
        have hsame:s.heap.set id (.tok l i.size)=s.heap:=by
         apply List.ext_getElem?
         intro j
         by_cases hj:j=id
         ·subst hj;rw [List.getElem?_set_self (List.getElem?_eq_some_iff.1 hid).1,hid]
         ·rw [List.getElem?_set_ne (fun e=>hj e.symm)]
        rw [hsame] at hrow
        have hk2:=hrow.kill hid rfl
        have htake:cn.toList.take ((l+m) * i.size)=vs ++ us:=by
         have hvs:c'.toList.take (l * i.size)=vs:=by
          rcases hsl with hsl | ⟨b',o',hb',hsl⟩
          ·have:l * i.size=0:=by rw [hsl] at hvl;simpa using hvl.symm
           rw [this,hsl];simp
          ·injection hb' with hb'
           injection hb' with q1 q2
           subst q1 q2
           apply List.ext_getElem?
           intro j
           rw [List.getElem?_take]
           split
           ·rename_i hj
            have hjv:j < vs.length:=oM
            have:=(hsl j vs[j] (List.getElem?_eq_getElem hjv)).2
            unfold World.cell? at this
            rw [g1] at this
            simp only [Option.isSome_none,Bool.false_eq_true,if_false,Nat.zero_add] at this
            rw [List.getElem?_eq_getElem hjv,← this]
            simp
           ·rename_i hj
            rw [List.getElem?_eq_none oM]
         rw [← hnew,hvs]
         simp only [List.append_assoc]
         rw [← List.append_assoc,show (l+m) * i.size=(vs ++ us).length by rw [List.length_append,hvl,hul,Nat.add_mul]]
         exact List.take_left
        obtain ⟨S',M',q1,q2⟩:=b3k hk2 hfk (b:=b) (k:=cap) (n:=i.size) (L:=l+m) (c:=cn) (e:=e') (h.tnew id _ _ b cap hid hm) (setRow_heap w b c' cn e' (0,0) g1) (by rw [hcn];exact g2) oM (hnob b cap hm)
         (fun q hS=>by
          rcases Nat.lt_or_ge q (l * i.size) with h' | h'
          ·rw [Nat.add_mul];omega
          ·exact absurd hS (g3 q h')) (ds:=ds ++ es) (by rw [htake];exact (hr.append hr2).ext ex.no)
        exact ⟨.value _,_,S',M',_,by rw [hb _ rfl,hr1];rfl,.inl rfl,q1,q2⟩
    ·cases ho
  ·cases ho
 ·cases ho

theorem c2o (h:m8 X dfs w0 S0 M0 S M w a s) {nid:Nat} {o:Oper} {out:H2} (t:TypeId) (l c:Operand) (he:o.op=.makeSlice t l c) (ho:n9 X s nid o.op=some out) (hn:out.need=true):H5 X dfs w0 S0 M0 w a s ((execOp a.eval o).run X.P w) out:=by
 rw [he] at ho
 simp only [n9,b1a] at ho
 have h1:=h.eval l
 have h2:=h.eval c
 generalize hv1:a.eval l=v1 at h1
 generalize hv2:a.eval c=v2 at h2
 split at ho
 ·rename_i e kl x kc y hu hl hc
  rw [hl] at h1
  rw [hc] at h2
  cases h1
  cases h2
  split at ho
  ·rename_i n bt z hsz hby hz
   generalize hcd:(Nat.beq z.length n && Nat.blt 0 n)=cd at ho
   cases cd with
   | false=>cases ho
   | true =>
   simp only [cond_true] at ho
   simp only [Bool.and_eq_true] at hcd
   obtain ⟨k1,k2⟩:=hcd
   have hnpos:0 < n:=by simpa [Nat.blt_eq] using k2
   obtain ⟨i,hi,rfl⟩:=b8w hby
   have hisz:i.size=n:=by unfold B7 at hsz;rw [hi] at hsz;injection hsz
   obtain ⟨zv,hzi,rfl⟩:∃ zv,i.zero=some zv∧z=zv.cells.toList.map W1:=by
    unfold S4 at hz;rw [hi] at hz
    simp only [Option.bind_some] at hz
    cases hq:i.zero with
    | none=>rw [hq] at hz;cases hz
    | some zv=>rw [hq] at hz;injection hz with hz;exact ⟨zv,rfl,hz.symm⟩
   subst hisz
   split at ho
   ·obtain ⟨hf,rfl⟩:=a2r ho
    have hq0:x=0∧0≤y∧y.toNat * i.bytes≤G2∧y.toNat≤G2:=of_decide_eq_true hn
    obtain ⟨rfl,hq⟩:=hq0
    unfold G2 at hq
    have hr:=run_make (P:=X.P) w t e i zv hu hi hzi kl kc (0:Int) y (by simp) hq.1 (by
     have:((y.toNat * i.bytes:Nat):Int)≤140737488355328:=oM
     rw [Int.natCast_mul,Int.toNat_of_nonneg hq.1,Int.mul_comm] at this
     omega) oM
    have hs2:=h.push (.cells (madeCells zv.cells (y.toNat * i.size)) e)
    obtain ⟨S',M',g1,g2⟩:=b3k hs2 hf (b:=w.heap.size) (k:=y.toNat) (n:=i.size) (L:=0) (c:=madeCells zv.cells (y.toNat * i.size)) (e:=e) h.keep.size (by simp) (size_madeCells _ _) (Nat.zero_le _) (fun j x c hj hx hm=>by have:=h.mlt _ _ _ hm;omega)
     (fun o hS=>by have:=h.within _ o hS;omega) (ds:=[]) (by simp;exact .nil)
    exact ⟨.value _,_,S',M',_,by simp only [execOp,he,hv1,hv2,Sem.run_bind,hr,Result.andThen_ok,Sem.run_pure];rfl,.inl rfl,g1,g2⟩
   ·obtain ⟨hf,rfl⟩:=a2r ho
    have hq:0≤x∧x=y∧x.toNat * i.bytes≤G2∧x.toNat≤G2:=of_decide_eq_true hn
    unfold G2 at hq
    obtain ⟨q1,rfl,q2,q3⟩:=hq
    have hr:=run_make (P:=X.P) w t e i zv hu hi hzi kl kc x x q1 (Int.le_refl _) (by
     have:((x.toNat * i.bytes:Nat):Int)≤140737488355328:=oM
     rw [Int.natCast_mul,Int.toNat_of_nonneg q1,Int.mul_comm] at this
     omega) oM
    exact b21 h hf (c:=madeCells zv.cells (x.toNat * i.size)) (t:=e) (ds:=a2j (zv.cells.toList.map W1) (x.toNat * i.size)) (b8r _) 1 (u:=.slice (some ⟨w.heap.size,0,none⟩) x.toNat x.toNat) (fun _ hm=>.bslice _ _ _ 0 hm)
     (by simp only [execOp,he,hv1,hv2,Sem.run_bind,hr,Result.andThen_ok,Sem.run_pure];rfl)
  ·cases ho
 ·cases ho

theorem d0j (h:m8 X dfs w0 S0 M0 S M w a s) {nid:Nat} {o:Oper} {out:H2} (ho:n9 X s nid o.op=some out) (hn:out.need=true):H5 X dfs w0 S0 M0 w a s ((execOp a.eval o).run X.P w) out:=by
 cases he:o.op with
 | move x=>exact c6r h x (.inl he) ho
 | assign x=>exact c6r h x (.inr he) ho
 | pick c x y=>exact d9u h c x y he ho
 | alloc t=>exact d48 h t he ho
 | box t x=>exact e3a h t x he ho
 | build t ps=>exact d5a h t ps he ho hn
 | buildSlice t l ps=>exact b9m h t l ps he ho hn
 | load t x=>exact d9t h t x he ho
 | store t x y=>exact d5e h t x y he ho
 | nilCheck x=>exact c4x h x he ho
 | binOp op t x y u=>exact d49 h op t x y u he ho hn
 | unOp op t x=>exact d9w h op t x he ho
 | convert src dst x=>exact c8r h src dst x he ho hn
 | makeInterface t x=>exact b3b h t x he ho
 | makeFunc fn f c=>exact c4w h fn f c he ho
 | makeSlice t l c=>exact c2o h t l c he ho hn
 | slice t x lo hi mx=>exact d5d h t x lo hi mx he ho hn
 | fieldAddr t x f=>exact c2m h t x f he ho
 | field t x f=>exact d5b h t x f he ho
 | indexAddr t x y=>exact c2n h t x y he ho hn
 | index t x y=>exact d5c h t x y he ho hn
 | extract x i=>exact c8s h x i he ho
 | call c =>
  obtain ⟨callee,args,ts⟩:=c
  rw [he] at ho
  cases callee with
  | builtin b =>
   simp only [n9] at ho
   split at ho
   ·rename_i x t h1 h2
    have e1:args=#[x]:=Array.toList_inj.1 h1
    have e2:ts=#[t]:=Array.toList_inj.1 h2
    subst e1 e2
    exact e3b h x t he ho
   ·rename_i x y h1
    have e1:args=#[x,y]:=Array.toList_inj.1 h1
    subst e1
    exact e3c h x y ts he ho
   ·rename_i x y h1
    have e1:args=#[x,y]:=Array.toList_inj.1 h1
    subst e1
    exact e3d h x y ts he ho
   ·rename_i x y t u h1 h2
    have e1:args=#[x,y]:=Array.toList_inj.1 h1
    have e2:ts=#[t,u]:=Array.toList_inj.1 h2
    subst e1 e2
    cases hb:Nat.beq t u with
    | false=>rw [hb] at ho;cases ho
    | true =>
     rw [hb] at ho
     have:=Nat.eq_of_beq_eq_true hb
     subst this
     exact d1u h x y t he ho hn
   ·cases ho
  | value f=>simp [n9] at ho
  | invoke r m=>simp [n9] at ho
 | _=>rw [he] at ho;simp [n9] at ho
end
def frz:St→List D→Option (List D × List Nat)
 | _,[]=>some ([],[])
 | s,.bslice id len :: ds=>match s.heap[id]? with
  | some (.cells xs)=>(frz { s with heap:=s.heap.set id .dead } ds).map fun p=>(.slice len (xs.map (renI V0)) .no :: p.1,id :: p.2)
  | _=>none
 | s,d :: ds=>(frz s ds).map fun p=>(d :: p.1,p.2)

def pid:D→Option Nat
 | .ptr id _=>some id
 | _=>none
def a8m:D→List Nat
 | .ptr id _=>[id]
 | .func _ fs cs=>fs.filterMap pid ++ cs.filterMap pid
 | _=>[]
def S8:List Nat→List Nat
 | []=>[]
 | x :: xs=>bif (S8 xs).any (Nat.beq x) then S8 xs else x :: S8 xs
def pos (id:Nat):List Nat→Option Nat
 | []=>none
 | x :: xs=>bif Nat.beq x id then some 0 else (pos id xs).map (·+1)
def O6 (h:List o9):List Nat→Option (List (List D))
 | []=>some []
 | id :: ids=>match h[id]? with
  | some (.cells xs)=>(O6 h ids).map (xs :: ·)
  | _=>none
def a4z (ids:List Nat) (hs:List (List D)):List (Nat × o9):=(ids.zip hs).map fun p=>(p.1,.cells (p.2.map (renI (ids[·]?))))

def a4c (g:FuncId):List (FuncId × (List D→List (List D)→Option (Bool × V2 × List (List D))))→Option (List D→List (List D)→Option (Bool × V2 × List (List D)))
 | []=>none
 | x :: xs=>bif Nat.beq x.1 g then some x.2 else a4c g xs

inductive b59 (X:Pr) (g:FuncId) (ds:List D) (hs:List (List D)) (n:Nat) (K:D→List (List D)→Prop) (Kp:D→Prop):Prop
 | ret (d:D) (hs':List (List D)):CM X.P X.G g ds hs (.ret d) hs'→hs'.length=n→K d hs'→b59 X g ds hs n K Kp
 | pan (d:D) (hs':List (List D)):CM X.P X.G g ds hs (.pan d) hs'→hs'.length=n→Kp d→b59 X g ds hs n K Kp

def b07 (X:Pr) (g:FuncId) (ds:List D) (hs:List (List D)) (n:Nat) (K:D→List (List D)→Prop) (Kp:D→Prop):Prop :=
 match a4c g X.tab with
 | some F=>match F ds hs with
  | some (b,.ret d,hs')=>cond b (cond (Nat.beq hs'.length n) (K d hs') False) False
  | some (b,.pan d,hs')=>cond b (cond (Nat.beq hs'.length n) (Kp d) False) False
  | none=>False
 | none=>b59 X g ds hs n K Kp

def Z2:D→D
 | .slice l c (.fr _)=>.slice l c .no
 | d=>d
def a0g (nid:Nat):List D→List D × List (Nat × o9)
 | []=>([],[])
 | d :: ds=>match d with
  | .slice len c (.fr z)=>bif Nat.beq c.length (len * z) then (.slice len c (.tok nid) :: ds.map Z2,[(nid,.tok len z)]) else (.slice len c .no :: (a0g nid ds).1,(a0g nid ds).2)
  | d=>(d :: (a0g nid ds).1,(a0g nid ds).2)
def own (nid:Nat):D→D × List (Nat × o9)
 | .tuple ds=>(.tuple (a0g nid ds).1,(a0g nid ds).2)
 | .slice len c (.fr z)=>bif Nat.beq c.length (len * z) then (.slice len c (.tok nid),[(nid,.tok len z)]) else (.slice len c .no,[])
 | d=>(d,[])
def a0f (s:St) (nid:Nat) (d:D) (ws:List (Nat × o9)) (rs:List Nat) (K:D→List (Nat × o9)→List Nat→Prop):Prop :=
 match own nid d with
 | (d',[])=>K d' ws rs
 | (d',x :: xs)=>cond (C1 (s.lay ws) nid) (K d' (ws ++ x :: xs) (nid :: rs)) False

def a7w (s:St) (nid:Nat) (ids ks:List Nat) (hs:List (List D)) (d:D) (hs':List (List D)) (K:D→List (Nat × o9)→List Nat→Prop):Prop :=
 a0f s nid (ren (ids[·]?) d) ((ks.map fun k=>(k,o9.dead)) ++ a4z ids hs') (ids ++ ks) K ∨
  (hs'.map (·.map (renI (ids[·]?)))=hs∧a0f s nid (ren (ids[·]?) d) (ks.map fun k=>(k,o9.dead)) (ids ++ ks) K)

def Z3 (X:Pr) (s:St) (nid:Nat) (g:FuncId) (ds:List D) (K:D→List (Nat × o9)→List Nat→Prop) (Kp:D→List Nat→Prop):Prop :=
 match frz s ds with
 | some (ds',ks) =>
  let ids:=S8 (ds'.flatMap a8m)
  match O6 (s.lay (ks.map fun k=>(k,.dead))).heap ids with
  | some hs=>b07 X g (ds'.map (ren (pos · ids))) (hs.map (·.map (renI (pos · ids)))) ids.length
    (fun d hs'=>a7w s nid ids ks hs d hs' K) (fun d=>Kp (ren V0 d) (ids ++ ks))
  | none=>False
 | none=>False

theorem a6c {g:FuncId}:∀ {l:List (FuncId × (List D→List (List D)→Option (Bool × V2 × List (List D))))} {F:List D→List (List D)→Option (Bool × V2 × List (List D))},a4c g l=some F→(g,F) ∈ l
 | [],_,h=>by cases h
 | x :: xs,F,h=>by
  simp only [a4c] at h
  cases hb:Nat.beq x.1 g with
  | true =>
   rw [hb] at h
   injection h with h
   rw [← h,← Nat.eq_of_beq_eq_true hb]
   exact List.mem_cons_self
  | false=>rw [hb] at h;exact List.mem_cons_of_mem _ (a6c h)

theorem a2n {X:Pr} {g:FuncId} {ds:List D} {hs:List (List D)} {n:Nat} {K:D→List (List D)→Prop} {Kp:D→Prop} (h:b07 X g ds hs n K Kp) :
  (∃ d hs',CM X.P X.G g ds hs (.ret d) hs'∧hs'.length=n∧K d hs'∧∀ (K':D→List (List D)→Prop) (Kp':D→Prop),K' d hs'→b07 X g ds hs n K' Kp') ∨
  (∃ d hs',CM X.P X.G g ds hs (.pan d) hs'∧hs'.length=n∧Kp d∧∀ (K':D→List (List D)→Prop) (Kp':D→Prop),Kp' d→b07 X g ds hs n K' Kp'):=by
 unfold b07 at h ⊢
 cases hF:a4c g X.tab with
 | none =>
  rw [hF] at h
  rcases h with ⟨d,hs',h1,h2,h3⟩ | ⟨d,hs',h1,h2,h3⟩
  ·exact .inl ⟨d,hs',h1,h2,h3,fun K' Kp' h'=>.ret d hs' h1 h2 h'⟩
  ·exact .inr ⟨d,hs',h1,h2,h3,fun K' Kp' h'=>.pan d hs' h1 h2 h'⟩
 | some F =>
  rw [hF] at h
  simp only [] at h ⊢
  cases hr:F ds hs with
  | none=>rw [hr] at h;exact h.elim
  | some p =>
   obtain ⟨b,r,hs'⟩:=p
   rw [hr] at h
   cases r with
   | ret d =>
    simp only [] at h
    cases b with
    | false=>exact h.elim
    | true =>
     cases hn:Nat.beq hs'.length n with
     | false=>rw [hn] at h;exact h.elim
     | true =>
      rw [hn] at h
      exact .inl ⟨d,hs',X.tabOk g F (a6c hF) ds hs _ hs' hr,Nat.eq_of_beq_eq_true hn,h,fun K' Kp' h'=>by simp only [hn];exact h'⟩
   | pan d =>
    simp only [] at h
    cases b with
    | false=>exact h.elim
    | true =>
     cases hn:Nat.beq hs'.length n with
     | false=>rw [hn] at h;exact h.elim
     | true =>
      rw [hn] at h
      exact .inr ⟨d,hs',X.tabOk g F (a6c hF) ds hs _ hs' hr,Nat.eq_of_beq_eq_true hn,h,fun K' Kp' h'=>by simp only [hn];exact h'⟩

section
variable {X:Pr} {dfs:List Deferred} {w0:World} {S0:k8} {M0:Mp} {S:k8} {M:Mp} {w:World} {a:Act} {s:St}

theorem V9 (s:St) (x:Nat × o9) (ws:List (Nat × o9)):s.lay (x :: ws)=({ s with heap:=s.heap.set x.1 x.2 }:St).lay ws:=rfl
theorem b4s (s:St) (xs ys:List (Nat × o9)):s.lay (xs ++ ys)=(s.lay xs).lay ys:=by
 unfold St.lay;rw [List.foldl_append]

theorem a94:∀ {ds:List D} {s:St} {S:k8} {vs:List Value} {ds':List D} {ks:List Nat},m8 X dfs w0 S0 M0 S M w a s→frz s ds=some (ds',ks)→p9 S M w vs ds →
  ∃ S',m8 X dfs w0 S0 M0 S' M w a (s.lay (ks.map fun k=>(k,.dead)))∧p9 S' M w vs ds'∧∀ b o,S b o→S' b o
 | [],s,S,vs,ds',ks,h,hf,hr=>by
  simp only [frz] at hf
  injection hf with hf
  injection hf with h1 h2
  subst h1 h2
  exact ⟨S,h,hr,fun _ _ h=>h⟩
 | d :: ds,s,S,vs,ds',ks,h,hf,hr=>by
  cases hr with
  | cons v _ vs _ hv hvs =>
  by_cases hb:∃ id len,d=.bslice id len
  ·obtain ⟨id,len,rfl⟩:=hb
   simp only [frz] at hf
   split at hf
   ·rename_i xs hid
    obtain ⟨p,hp,he⟩:=Option.map_eq_some_iff.1 hf
    obtain ⟨p1,p2⟩:=p
    injection he with h1 h2
    subst h1 h2
    obtain ⟨b,k,c,e,hm,hc,hrd,hnS⟩:=h.heap.box _ _ hid
    have hk:=h.kill hid rfl
    cases hv with
    | bslice _ _ b' c' hm' =>
     have hnew:=h.bnew _ _ _ hm'
     rw [hm] at hm'
     injection hm' with hm'
     injection hm' with q1 q2
     subst q1
     ·have hp':=hk.protect (fun b' _=>b'=b) (fun b' o hb=>by subst hb;exact ⟨hnew,h.mlt _ _ _ hm⟩)
       (fun j xs' b' k' hj hmj o hb=>by
        subst hb
        by_cases hji:j=id
        ·subst hji
         simp only [List.getElem?_set_self (List.getElem?_eq_some_iff.1 hid).1] at hj
         cases hj
        ·simp only [List.getElem?_set_ne (fun e=>hji e.symm)] at hj
         exact hji (h.heap.apart j id _ _ b' k' k hj hid rfl rfl hmj hm))
       (fun j l n b' k' hj hmj o _ hb=>by
        subst hb
        by_cases hji:j=id
        ·subst hji
         simp only [List.getElem?_set_self (List.getElem?_eq_some_iff.1 hid).1] at hj
         cases hj
        ·simp only [List.getElem?_set_ne (fun e=>hji e.symm)] at hj
         exact hji (h.heap.apart j id _ _ b' k' k hj hid rfl rfl hmj hm))
      have ex:N4 S M w (fun b' o=>S b' o∨b'=b) M w:=⟨fun _ _ h=>.inl h,fun _ _ _=>rfl,fun _ _ h=>h⟩
      obtain ⟨S',g1,g2,g3⟩:=a94 hp' hp (hvs.ext ex)
      refine ⟨S',g1,.cons _ _ _ _ ?_ g2,fun b' o hS=>g3 b' o (.inl hS)⟩
      refine .slice _ _ _ c.toList _ _ (.inr ⟨b,0,rfl,fun i u hi=>⟨g3 _ _ (.inr rfl),?_⟩⟩) ?_ trivial (Nat.le_refl _) (fun h=>by cases h)
      ·unfold World.cell?;rw [hc];simpa using hi
      ·exact (E5 (fun _ _=>U6 (O5.no _ _)) hrd).ext ⟨fun _ _ hS=>g3 _ _ (.inl hS),fun _ _ _=>rfl,fun _ _ h=>h⟩
   ·cases hf
  ·have hf':(frz s ds).map (fun p=>(d :: p.1,p.2))=some (ds',ks):=by
    rw [← hf]
    cases d <;> first | rfl | exact absurd ⟨_,_,rfl⟩ hb
   obtain ⟨p,hp,he⟩:=Option.map_eq_some_iff.1 hf'
   obtain ⟨p1,p2⟩:=p
   injection he with h1 h2
   subst h1 h2
   obtain ⟨S',g1,g2,g3⟩:=a94 h hp hvs
   exact ⟨S',g1,.cons _ _ _ _ (hv.ext ⟨g3,fun _ _ _=>rfl,fun _ _ h=>h⟩) g2,g3⟩

def b2t (w0:World) (S0:k8) (M0:Mp) (w':World) (v:Value) (d:D):Prop :=
 Z8 w0 M0 w'∧∃ S',S0.grown S' w0∧S'.within w'∧Rd S' s9 w' v d

theorem a7d {id:Nat}:∀ {l:List Nat} {j:Nat},pos id l=some j→l[j]?=some id
 | [],j,h=>by cases h
 | x :: xs,j,h=>by
  simp only [pos] at h
  cases hb:Nat.beq x id with
  | true =>
   rw [hb] at h
   injection h with h
   subst h
   simp [Nat.eq_of_beq_eq_true hb]
  | false =>
   rw [hb] at h
   obtain ⟨k,hk,rfl⟩:=Option.map_eq_some_iff.1 h
   simpa using a7d hk

theorem d9k {x:Nat} {l:List Nat} (h:l.any (Nat.beq x)=false):x ∉ l:=by
 intro hx
 rw [List.any_eq_false] at h
 exact absurd (Nat.beq_refl x) (by simpa using h x hx)

theorem a18:∀ (l:List Nat),(S8 l).Nodup
 | []=>List.nodup_nil
 | x :: xs=>by
  simp only [S8]
  cases hb:(S8 xs).any (Nat.beq x) with
  | true=>exact a18 xs
  | false=>exact List.nodup_cons.2 ⟨d9k hb,a18 xs⟩

theorem a5e {h:List o9}:∀ {ids:List Nat} {hs:List (List D)},O6 h ids=some hs→hs.length=ids.length∧∀ (j:Nat) (id:Nat),ids[j]?=some id→∃ xs,hs[j]?=some xs∧h[id]?=some (.cells xs)
 | [],hs,hb=>by simp only [O6] at hb;injection hb with hb;subst hb;exact ⟨rfl,fun j id h=>by simp at h⟩
 | i :: ids,hs,hb=>by
  simp only [O6] at hb
  split at hb
  ·rename_i xs hx
   obtain ⟨hs',h1,rfl⟩:=Option.map_eq_some_iff.1 hb
   obtain ⟨h2,h3⟩:=a5e h1
   refine ⟨by simp [h2],fun j id hj=>?_⟩
   cases j with
   | zero=>simp at hj;subst hj;exact ⟨xs,rfl,hx⟩
   | succ j=>simp at hj;simpa using h3 j id hj
  ·cases hb

theorem b5c (f:Nat→Option Nat):∀ (ids:List Nat) (hs:List (List D)) (h:List o9),ids.Nodup→hs.length=ids.length→(∀ id ∈ ids,id < h.length) →
  (∀ (j id:Nat),ids[j]?=some id→∃ xs,hs[j]?=some xs∧(((ids.zip hs).map fun p=>(p.1,o9.cells (p.2.map (renI f)))).foldl (fun h x=>h.set x.1 x.2) h)[id]?=some (.cells (xs.map (renI f)))) ∧
  (∀ i,i ∉ ids→(((ids.zip hs).map fun p=>(p.1,o9.cells (p.2.map (renI f)))).foldl (fun h x=>h.set x.1 x.2) h)[i]?=h[i]?) ∧
  (((ids.zip hs).map fun p=>(p.1,o9.cells (p.2.map (renI f)))).foldl (fun h x=>h.set x.1 x.2) h).length=h.length
 | [],hs,h,_,hl,_=>by
  have:hs=[]:=List.eq_nil_of_length_eq_zero hl
  subst this
  exact ⟨fun j id hj=>by simp at hj,fun i _=>rfl,rfl⟩
 | id0 :: ids,hs,h,hn,hl,hlt=>by
  cases hs with
  | nil=>simp at hl
  | cons x hs =>
   obtain ⟨hn1,hn2⟩:=List.nodup_cons.1 hn
   obtain ⟨g1,g2,g3⟩:=b5c f ids hs (h.set id0 (.cells (x.map (renI f)))) hn2 (by simpa using hl) (fun id hid=>by simpa using hlt id (List.mem_cons_of_mem _ hid))
   simp only [List.zip_cons_cons,List.map_cons,List.foldl_cons]
   refine ⟨fun j id hj=>?_,fun i hi=>?_,by rw [g3];simp⟩
   ·cases j with
    | zero =>
     simp at hj;subst hj
     refine ⟨x,rfl,?_⟩
     rw [g2 id0 hn1,List.getElem?_set_self (hlt id0 List.mem_cons_self)]
    | succ j=>simp at hj;simpa using g1 j id hj
   ·rw [g2 i (fun hm=>hi (List.mem_cons_of_mem _ hm)),List.getElem?_set_ne (fun e=>hi (by rw [← e];exact List.mem_cons_self))]

theorem c6z {f:Nat→Option Nat} {d:D} {l:Nat} {c:List D} {z:Nat} (h:renI f d=.slice l c (.fr z)):d=.slice l c (.fr z):=by
 cases d with
 | slice l' c' k =>
  cases k with
  | fr z'=>exact h
  | no=>injection h with _ _ h;cases h
  | exact=>injection h with _ _ h;cases h
  | tok id=>injection h with _ _ h;cases h
 | ptr id off =>
  change (match f id with | some j=>D.ptr j off | none=>.junk)=_ at h
  split at h <;> cases h
 | agg cs=>cases h
 | iface t d=>cases h
 | func fn fs cs=>cases h
 | _=>cases h
theorem V1.renI {S:k8} {w0 w:World} {v:Value} {d:D} (h:V1 S w0 w v d) (f:Nat→Option Nat):V1 S w0 w v (renI f d):=fun l c z e=>h l c z (c6z e)
theorem e6h {f:Nat→Option Nat} {d:D} {l:Nat} {c:List D} {z:Nat} (h:ren f d=.slice l c (.fr z)):d=.slice l c (.fr z):=by
 cases d with
 | tuple ds=>cases h
 | _=>exact c6z (f:=f) h
theorem a2y.ren {S:k8} {w0 w:World} {v:Value} {d:D} (h:a2y S w0 w v d) (f:Nat→Option Nat):a2y S w0 w v (ren f d):=by
 refine ⟨fun l c z e=>h.1 l c z (e6h e),fun vs ds hv hd i u e hu he=>?_⟩
 cases d with
 | tuple xs =>
  have hd:D.tuple (xs.map (Go.Abs.renI f))=.tuple ds:=hd
  injection hd with hd
  subst hd
  rw [List.getElem?_map] at he
  obtain ⟨y,hy,rfl⟩:=Option.map_eq_some_iff.1 he
  exact (h.2 vs xs hv rfl i u y hu hy).renI f
 | ptr id off =>
  change (match f id with | some j=>D.ptr j off | none=>.junk)=_ at hd
  split at hd <;> cases hd
 | slice l c k=>cases k <;> cases hd
 | _=>cases hd

theorem b7w (h:m8 X dfs w0 S0 M0 S M w a s) {g:FuncId} {ds:List D} {vs:List Value} (hvs:p9 S M w vs ds) {ids:List Nat} (hnd:ids.Nodup) {hs:List (List D)} (hbx:O6 s.heap ids=some hs) {r:V2} {hs':List (List D)}
  (hcm:CM X.P X.G g (ds.map (ren (pos · ids))) (hs.map (·.map (renI (pos · ids)))) r hs') (hlen:hs'.length=ids.length) :
  Calls X.P g vs.toArray w fun e w' =>
   match r with
   | .ret d=>∃ v S',e=.returned v∧m8 X dfs w0 S0 M0 S' M w' a (s.lay (a4z ids hs'))∧Rd S' M w' v (ren (ids[·]?) d)∧a2y S' w w' v (ren (ids[·]?) d)
   | .pan d=>∃ v,e=.panicked [{ v,recovered:=false }]∧b2t w0 S0 M0 w' v (ren V0 d):=by
 obtain ⟨hbl,hbg⟩:=a5e hbx
 let M':Mp:=fun j=>(ids[j]?).bind fun id=>(M id).map fun x=>(x.1,0)
 have hM':∀ j b c,M' j=some (b,c)→∃ id k,ids[j]?=some id∧M id=some (b,k)∧c=0:=fun j b c hj=>by
  obtain ⟨id,h1,h2⟩:=Option.bind_eq_some_iff.1 hj
  obtain ⟨x,h3,h4⟩:=Option.map_eq_some_iff.1 h2
  obtain ⟨x1,x2⟩:=x
  injection h4 with h4 h5
  simp only at h4
  subst h4
  exact ⟨id,x2,h1,h3,h5.symm⟩
 have hM'2:∀ j id b k,ids[j]?=some id→M id=some (b,k)→M' j=some (b,0):=fun j id b k h1 h2=>by
  show (ids[j]?).bind _=_
  rw [h1];simp [h2]
 have hok:O5 (pos · ids) M M':=fun i j b c hp hm=>⟨0,hM'2 j i b c (a7d hp) hm⟩
 have hbk:O5 (ids[·]?) M' M:=fun j id b c h1 h2=>by
  obtain ⟨id',k,h3,h4,_⟩:=hM' j b c h2
  have h1':ids[j]?=some id:=h1
  rw [h1'] at h3;injection h3 with h3;subst h3
  exact ⟨k,h4⟩
 have hinj:∀ i j id,ids[i]?=some id→ids[j]?=some id→i=j:=fun i j id hi hj=>by
  obtain ⟨hi1,hi2⟩:=List.getElem?_eq_some_iff.1 hi
  obtain ⟨hj1,hj2⟩:=List.getElem?_eq_some_iff.1 hj
  exact (List.getElem_inj hnd).1 (hi2.trans hj2.symm)
 have hheap:a6q S M' w ((hs.map (·.map (renI (pos · ids)))).map .cells):=by
  refine ⟨fun j x hj=>?_,fun j hj=>?_,fun i j x y b k l hi hj _ _ hmi hmj=>?_⟩
  ·simp only [List.getElem?_map,Option.map_map] at hj
   obtain ⟨xs,hxs,rfl⟩:=Option.map_eq_some_iff.1 hj
   have hjl:j < ids.length:=by rw [← hbl];exact (List.getElem?_eq_some_iff.1 hxs).1
   obtain ⟨xs',h1,h2⟩:=hbg j ids[j] (List.getElem?_eq_getElem hjl)
   rw [hxs] at h1;injection h1 with h1;subst h1
   obtain ⟨b,k,c,e,hm,hc,hrd,hnS⟩:=h.heap.box _ _ h2
   exact ⟨b,0,c,e,hM'2 j _ b k (List.getElem?_eq_getElem hjl) hm,hc,E5 (fun _ _=>U6 hok) hrd,hnS⟩
  ·show (ids[j]?).bind _=none
   rw [List.getElem?_eq_none (by simpa [hbl] using hj)];rfl
  ·obtain ⟨id1,k1,h1,h2,_⟩:=hM' i b k hmi
   obtain ⟨id2,k2,h3,h4,_⟩:=hM' j b l hmj
   obtain ⟨xs1,_,g1⟩:=hbg i id1 h1
   obtain ⟨xs2,_,g2⟩:=hbg j id2 h3
   have:=h.heap.apart id1 id2 _ _ b k1 k2 g1 g2 rfl rfl h2 h4
   subst this
   exact hinj i j id1 h1 h3
 refine (hcm.2 w S M' vs h.glob (fun i b c hi=>?_) h.within hheap (E5 (fun _ _=>b5e hok) hvs)).mono fun e w' ⟨hk,S',hg,hwi,hpost⟩=>?_
 ·obtain ⟨id,k,h1,h2,h3⟩:=hM' i b c hi
  exact ⟨h.gN id b k h2,h.mlt id b k h2,h3⟩
 have hblk:∀ b,b < w.heap.size→(∀ j id k,ids[j]?=some id→M id ≠ some (b,k))→w'.heap[b]?=w.heap[b]?:=fun b hb hno=>hk.block b hb fun j c hj=>by
  obtain ⟨id,k,h1,h2,_⟩:=hM' j b c hj
  exact hno j id k h1 h2
 have hkeep:Z8 w0 M0 w':=⟨hk.os.trans h.keep.os,hk.tape.trans h.keep.tape,hk.output.trans h.keep.output,Nat.le_trans h.keep.size hk.size,fun q hq hM=>by
  rw [hblk q (Nat.lt_of_lt_of_le hq h.keep.size) fun j id k _ hm=>?_,h.keep.block q hq hM]
  rcases h.own id q k hm with ⟨j',k',hj'⟩ | hge
  ·exact hM j' k' hj'
  ·omega⟩
 have hgrown:S0.grown S' w0:=⟨fun b o hS=>hg.1 b o (h.grown.1 b o hS),fun b o hS=>by
  rcases hg.2 b o hS with h1 | h1
  ·exact h.grown.2 b o h1
  ·exact .inr (Nat.le_trans h.keep.size h1)⟩
 cases r with
 | pan d =>
  obtain ⟨v,he,hv⟩:=hpost
  exact ⟨v,he,hkeep,S',hgrown,hwi,b5e (O5.no _ _) hv⟩
 | ret d =>
  obtain ⟨hh',v,he,hv,hfr⟩:=hpost
  have hunS:∀ b o,S b o→w'.heap[b]?=w.heap[b]?:=fun b o hS=>hblk b (h.within b o hS) fun j id k hj hm=>by
   obtain ⟨xs,_,g1⟩:=hbg j id hj
   obtain ⟨b',k',c,e,hm',_,_,hnS⟩:=h.heap.box _ _ g1
   rw [hm] at hm';injection hm' with hm';injection hm' with hm' _;subst hm'
   exact hnS o hS
  have ex:N4 S M w S' M w':=⟨hg.1,fun b o hS=>a9q (hunS b o hS),fun _ _ h=>h⟩
  have hlt:∀ id ∈ ids,id < s.heap.length:=fun id hid=>by
   obtain ⟨j,hj⟩:=List.getElem?_of_mem hid
   obtain ⟨xs,_,g1⟩:=hbg j id hj
   exact (List.getElem?_eq_some_iff.1 g1).1
  obtain ⟨p1,p2,p3⟩:=b5c (ids[·]?) ids hs' s.heap hnd hlen hlt
  have hnS':∀ b o,b < w.heap.size→¬S b o→¬S' b o:=fun b o hb hn hS=>by
   rcases hg.2 b o hS with h1 | h1
   ·exact hn h1
   ·omega
  refine ⟨v,S',he,⟨h.env.ext ex,⟨fun i x hi=>?_,fun i hi=>?_,fun i j x y b k l hi hj hx hy hmi hmj=>?_⟩,h.defers,hwi,hgrown,hkeep,h.map,h.own,?_,h.gN,fun i b c hi=>Nat.lt_of_lt_of_le (h.mlt i b c hi) hk.size,h.g0,fun i l n b k hi hm=>?_,h.bnew⟩,b5e hbk hv,hfr.ren _⟩
  ·by_cases him:i ∈ ids
   ·obtain ⟨j,hj⟩:=List.getElem?_of_mem him
    obtain ⟨xs,g1,g2⟩:=p1 j i hj
    change (((ids.zip hs').map fun p=>(p.1,o9.cells (p.2.map (renI (ids[·]?))))).foldl (fun h x=>h.set x.1 x.2) s.heap)[i]?=some x at hi
    rw [g2] at hi;injection hi with hi;subst hi
    obtain ⟨b,k,c,e,hm,hc,hrd,hnS⟩:=hh'.box j (.cells xs) (by simp [g1])
    obtain ⟨id,k',h1,h2,_⟩:=hM' j b k hm
    rw [hj] at h1;injection h1 with h1;subst h1
    exact ⟨b,k',c,e,h2,hc,E5 (fun _ _=>U6 hbk) hrd,hnS⟩
   ·change (((ids.zip hs').map fun p=>(p.1,o9.cells (p.2.map (renI (ids[·]?))))).foldl (fun h x=>h.set x.1 x.2) s.heap)[i]?=some x at hi
    rw [p2 i him] at hi
    have hb:=h.heap.box i x hi
    have hoth:∀ b k,M i=some (b,k)→x.live=true→w'.heap[b]?=w.heap[b]?:=fun b k hm hl=>hblk b (h.mlt _ _ _ hm) fun j id k' hj hm'=>by
     obtain ⟨xs,_,g1⟩:=hbg j id hj
     have:=h.heap.apart i id x _ b k k' hi g1 hl rfl hm hm'
     subst this
     exact him (List.mem_of_getElem? hj)
    cases x with
    | cells xs=>obtain ⟨b,k,c,e,hm,hc,hrd,hnS⟩:=hb;exact ⟨b,k,c,e,hm,(hoth b k hm rfl).trans hc,hrd.ext ex,fun o=>hnS' b o (h.mlt _ _ _ hm) (hnS o)⟩
    | tok l n=>intro b k hm;obtain ⟨c,e,hc,hcs,hnS⟩:=hb b k hm;exact ⟨c,e,(hoth b k hm rfl).trans hc,hcs,fun o ho=>hnS' b o (h.mlt _ _ _ hm) (hnS o ho)⟩
    | dead=>trivial
    | free=>exact hb
  ·change (((ids.zip hs').map fun p=>(p.1,o9.cells (p.2.map (renI (ids[·]?))))).foldl (fun h x=>h.set x.1 x.2) s.heap).length≤i at hi
   rw [p3] at hi
   exact h.heap.out i hi
  ·have fix:∀ (i:Nat) (u:o9),(((ids.zip hs').map fun p=>(p.1,o9.cells (p.2.map (renI (ids[·]?))))).foldl (fun h x=>h.set x.1 x.2) s.heap)[i]?=some u→u.live=true→∃ u':o9,s.heap[i]?=some u'∧u'.live=true:=by
    intro i u hi hu
    by_cases him:i ∈ ids
    ·obtain ⟨j,hj⟩:=List.getElem?_of_mem him
     obtain ⟨xs,_,g1⟩:=hbg j i hj
     exact ⟨_,g1,rfl⟩
    ·rw [p2 i him] at hi;exact ⟨u,hi,hu⟩
   obtain ⟨x',hi',hx'⟩:=fix i x hi hx
   obtain ⟨y',hj',hy'⟩:=fix j y hj hy
   exact h.heap.apart i j x' y' b k l hi' hj' hx' hy' hmi hmj
  ·refine X.G.stable w w' h.glob fun b hb=>hblk b (Nat.lt_of_lt_of_le hb (X.G.size w h.glob)) fun j id k _ hm=>?_
   have:=h.gN id b k hm
   omega
  ·by_cases him:i ∈ ids
   ·obtain ⟨j,hj⟩:=List.getElem?_of_mem him
    obtain ⟨xs,g1,g2⟩:=p1 j i hj
    change (((ids.zip hs').map fun p=>(p.1,o9.cells (p.2.map (renI (ids[·]?))))).foldl (fun h x=>h.set x.1 x.2) s.heap)[i]?=_ at hi
    rw [g2] at hi;cases hi
   ·change (((ids.zip hs').map fun p=>(p.1,o9.cells (p.2.map (renI (ids[·]?))))).foldl (fun h x=>h.set x.1 x.2) s.heap)[i]?=_ at hi
    rw [p2 i him] at hi
    exact h.tnew i l n b k hi hm

theorem c7b (h:m8 X dfs w0 S0 M0 S M w a s) {nid:Nat} (hf:C1 s nid=true) {wc:World} (hwc:w0.heap.size≤wc.heap.size) (hM:∀ i b c,M i=some (b,c)→b < wc.heap.size) {v:Value} {len z:Nat} {c:List D}
  (hv:Rd S M w v (.slice len c (.fr z))) (hfr:V1 S wc w v (.slice len c (.fr z))) (hl:c.length=len * z) :
  ∃ S' M',N4 S M w S' M' w∧m8 X dfs w0 S0 M0 S' M' w a (s.lay [(nid,.tok len z)])∧Rd S' M' w v (.slice len c (.tok nid)):=by
 have hfree:s.heap[nid]?=some .free:=by
  unfold C1 at hf
  split at hf
  ·assumption
  ·cases hf
 obtain ⟨base,cap,rfl,hcase⟩:=hfr len c z rfl
 cases hv with
 | slice _ _ _ vs _ _ ha hr hc hle hz =>
  rcases hcase with hcap | ⟨b,cc,e,hb,hge,hcell,hsz,hnS⟩
  ·exact ⟨S,M,N4.refl _ _ _,h.blank hfree,.slice _ _ _ _ _ _ ha hr (.inl hcap) hle hz⟩
  ·subst hb
   have hvl:vs.length=len * z:=hr.length.trans hl
   have htake:cc.toList.take (len * z)=vs:=by
    apply List.ext_getElem?
    intro i
    rcases Nat.lt_or_ge i (len * z) with hi | hi
    ·have hi':i < vs.length:=oM
     rw [List.getElem?_take_of_lt hi,List.getElem?_eq_getElem hi']
     rcases ha with ha | ⟨b',o,hbo,ha⟩
     ·rw [ha] at hi';simp at hi'
     ·injection hbo with hbo
      injection hbo with q1 q2 _
      subst q1 q2
      have:=(ha i vs[i] (List.getElem?_eq_getElem hi')).2
      unfold World.cell? at this
      rw [hcell] at this
      simpa using this
    ·rw [List.getElem?_eq_none (by simp;omega),List.getElem?_eq_none oM]
   obtain ⟨S',M',q1,q2,q3⟩:=b8t h hfree (b:=b) (k:=cap) (n:=z) (L:=len) (Nat.le_trans hwc hge) hcell hsz hle
    (fun i x k' _ _ hm=>by have:=hM i b k' hm;omega) (fun o hS=>by rcases Nat.lt_or_ge o (len * z) with ho | ho;exact ho;exact absurd hS (hnS o ho)) (ds:=c) (by rw [htake];exact hr)
   exact ⟨S',M',q1,q2,q3⟩
theorem a5p {v:Value} {d:D} (h:Rd S M w v d):Rd S M w v (Z2 d):=by
 unfold Z2
 split
 ·cases h with
  | slice _ _ _ vs _ _ ha hr hc hle hz=>exact .slice _ _ _ _ _ _ ha hr trivial hle hz
 ·exact h
theorem b47 (h:m8 X dfs w0 S0 M0 S M w a s) {nid:Nat} {wc:World} (hwc:w0.heap.size≤wc.heap.size) (hM:∀ i b c,M i=some (b,c)→b < wc.heap.size):∀ {vs:List Value} {ds:List D},p9 S M w vs ds →
  (∀ (i:Nat) (u:Value) (e:D),vs[i]?=some u→ds[i]?=some e→V1 S wc w u e)→((a0g nid ds).2 ≠ []→C1 s nid=true) →
  ∃ S' M',N4 S M w S' M' w∧m8 X dfs w0 S0 M0 S' M' w a (s.lay (a0g nid ds).2)∧p9 S' M' w vs (a0g nid ds).1
 | _,_,.nil,_,_=>⟨S,M,N4.refl _ _ _,h,.nil⟩
 | _,_,.cons v d vs ds hv hvs,hfr,hfree=>by
  have rest:=fun (hn:(a0g nid ds).2 ≠ []→C1 s nid=true)=>b47 h (nid:=nid) hwc hM hvs (fun i u e hu he=>hfr (i+1) u e (by simpa using hu) (by simpa using he)) hn
  simp only [a0g] at hfree ⊢
  split
  ·rename_i len c z
   simp only [] at hfree
   cases hl:Nat.beq c.length (len * z) with
   | true =>
    rw [hl] at hfree
    simp only [cond_true] at hfree ⊢
    obtain ⟨S',M',q1,q2,q3⟩:=c7b h (hfree (by simp)) hwc hM hv (hfr 0 v _ rfl rfl) (Nat.eq_of_beq_eq_true hl)
    exact ⟨S',M',q1,q2,.cons _ _ _ _ q3 (E5 (fun _ _=>a5p) (hvs.ext q1))⟩
   | false =>
    rw [hl] at hfree
    simp only [cond_false] at hfree ⊢
    obtain ⟨S',M',q1,q2,q3⟩:=rest hfree
    exact ⟨S',M',q1,q2,.cons _ _ _ _ (a5p (hv.ext q1)) q3⟩
  ·rename_i hnf
   have hfree':(a0g nid ds).2 ≠ []→C1 s nid=true:=by
    intro hne
    apply hfree
    split
    ·exact absurd rfl (hnf _ _ _)
    ·exact hne
   obtain ⟨S',M',q1,q2,q3⟩:=rest hfree'
   exact ⟨S',M',q1,q2,.cons _ _ _ _ (hv.ext q1) q3⟩
theorem d1x (h:m8 X dfs w0 S0 M0 S M w a s) {nid:Nat} {wc:World} (hwc:w0.heap.size≤wc.heap.size) (hM:∀ i b c,M i=some (b,c)→b < wc.heap.size) {v:Value} {d:D} (hv:Rd S M w v d) (hfr:a2y S wc w v d)
  (hfree:(own nid d).2 ≠ []→C1 s nid=true):∃ S' M',N4 S M w S' M' w∧m8 X dfs w0 S0 M0 S' M' w a (s.lay (own nid d).2)∧Rd S' M' w v (own nid d).1:=by
 unfold own at hfree ⊢
 split
 ·rename_i ds
  cases hv with
  | tuple vs _ hvs =>
   obtain ⟨S',M',q1,q2,q3⟩:=b47 h (nid:=nid) hwc hM hvs (fun i u e hu he=>hfr.2 vs ds rfl rfl i u e (by simpa using hu) he) hfree
   exact ⟨S',M',q1,q2,.tuple _ _ q3⟩
 ·rename_i len c z
  simp only [] at hfree
  cases hl:Nat.beq c.length (len * z) with
  | true =>
   rw [hl] at hfree
   simp only [cond_true] at hfree ⊢
   exact c7b h (hfree (by simp)) hwc hM hv hfr.1 (Nat.eq_of_beq_eq_true hl)
  | false=>exact ⟨S,M,N4.refl _ _ _,h,a5p hv⟩
 ·exact ⟨S,M,N4.refl _ _ _,h,hv⟩

theorem c17:∀ {l:List (Nat × o9)} {s:St},(∀ p ∈ l,s.heap[p.1]?=some p.2)→s.lay l=s
 | [],s,_=>rfl
 | p :: l,s,h=>by
  have e:({ s with heap:=s.heap.set p.1 p.2 }:St)=s:=by
   have hp:=h p List.mem_cons_self
   have:s.heap.set p.1 p.2=s.heap:=by
    apply List.ext_getElem?
    intro i
    by_cases hi:p.1=i
    ·subst hi;rw [List.getElem?_set_self (List.getElem?_eq_some_iff.1 hp).1,hp]
    ·rw [List.getElem?_set_ne hi]
   rw [this]
  rw [V9,e]
  exact c17 fun q hq=>h q (List.mem_cons_of_mem _ hq)
theorem c40 {s:St} {ids:List Nat} {hs hs':List (List D)} (hb:O6 s.heap ids=some hs) (h:hs'.map (·.map (renI (ids[·]?)))=hs):∀ p ∈ a4z ids hs',s.heap[p.1]?=some p.2:=by
 intro p hp
 obtain ⟨hl,hg⟩:=a5e hb
 unfold a4z at hp
 obtain ⟨q,hq,rfl⟩:=List.mem_map.1 hp
 obtain ⟨j,hj⟩:=List.getElem?_of_mem hq
 rw [List.getElem?_zip_eq_some] at hj
 obtain ⟨j1,j2⟩:=hj
 obtain ⟨xs,g1,g2⟩:=hg j q.1 j1
 rw [← h,List.getElem?_map,j2] at g1
 injection g1 with g1
 simp only
 rw [g2,← g1]
theorem c7q (h:m8 X dfs w0 S0 M0 S M w a s) {nid:Nat} {g:FuncId} {ds:List D} {vs:List Value} (hvs:p9 S M w vs ds) {K:D→List (Nat × o9)→List Nat→Prop} {Kp:D→List Nat→Prop} (hv:Z3 X s nid g ds K Kp) :
  (∀ args w,(callFunc g args).run X.P w=.ok (.enter g args) w)∧Calls X.P g vs.toArray w fun e w' =>
   (∃ v d ws rs S' M',e=.returned v∧K d ws rs∧m8 X dfs w0 S0 M0 S' M' w' a (s.lay ws)∧Rd S' M' w' v d) ∨
   (∃ v d rs,e=.panicked [{ v,recovered:=false }]∧Kp d rs∧b2t w0 S0 M0 w' v d):=by
 unfold Z3 at hv
 split at hv
 ·rename_i ds' ks hfrz
  simp only [] at hv
  split at hv
  ·rename_i hs hbx
   obtain ⟨S1,h1,h2,_⟩:=a94 h hfrz hvs
   rcases a2n hv with ⟨d,hs',hcm,hlen,hr,_⟩ | ⟨d,hs',hcm,hlen,hr,_⟩
   ·refine ⟨hcm.1,(b7w h1 h2 (a18 _) hbx hcm hlen).mono fun e w' hp=>?_⟩
    obtain ⟨v,S',he,hrel,hrd,hfr⟩:=hp
    have go:∀ W:List (Nat × o9),m8 X dfs w0 S0 M0 S' M w' a (s.lay W)→a0f s nid (ren ((S8 (ds'.flatMap a8m))[·]?) d) W (S8 (ds'.flatMap a8m) ++ ks) K →
      ∃ v d ws rs S' M',e=.returned v∧K d ws rs∧m8 X dfs w0 S0 M0 S' M' w' a (s.lay ws)∧Rd S' M' w' v d:=by
     intro W hrel hr
     unfold a0f at hr
     have key:∀ d' ws',own nid (ren ((S8 (ds'.flatMap a8m))[·]?) d)=(d',ws')→(ws' ≠ []→C1 (s.lay W) nid=true) →
       ∃ S2 M2,m8 X dfs w0 S0 M0 S2 M2 w' a (s.lay (W ++ ws'))∧Rd S2 M2 w' v d':=by
      intro d' ws' ho hfree
      have h3:=d1x hrel (nid:=nid) (wc:=w) h1.keep.size h1.mlt hrd hfr (by rw [ho];exact hfree)
      rw [ho] at h3
      obtain ⟨S2,M2,_,q2,q3⟩:=h3
      exact ⟨S2,M2,by rw [b4s];exact q2,q3⟩
     split at hr
     ·rename_i d' ho
      obtain ⟨S2,M2,q1,q2⟩:=key d' [] ho (fun hne=>absurd rfl hne)
      rw [List.append_nil] at q1
      exact ⟨v,_,_,_,S2,M2,he,hr,q1,q2⟩
     ·rename_i d' x xs ho
      generalize hfb:C1 (s.lay W) nid=fb at hr
      cases fb with
      | false=>exact hr.elim
      | true =>
       obtain ⟨S2,M2,q1,q2⟩:=key d' (x :: xs) ho (fun _=>hfb)
       exact ⟨v,_,_,_,S2,M2,he,hr,q1,q2⟩
    rcases hr with hr | ⟨hsame,hr⟩
    ·rw [← b4s] at hrel
     exact .inl (go _ hrel hr)
    ·rw [c17 (c40 hbx hsame)] at hrel
     exact .inl (go _ hrel hr)
   ·refine ⟨hcm.1,(b7w h1 h2 (a18 _) hbx hcm hlen).mono fun e w' hp=>?_⟩
    obtain ⟨v,he,hgone⟩:=hp
    exact .inr ⟨v,_,_,he,hr,hgone⟩
  ·exact hv.elim
 ·exact hv.elim
end
def N3 (X:Pr) (s:St) (nid:Nat) (o:Op) (K:D→List (Nat × o9)→List Nat→Prop) (Kp:D→List Nat→Prop):Prop :=
 match o with
 | .call { callee:=.value f,args,.. }=>match s.eval f with
  | .func (.func g) fs cs=>Z3 X s nid g (fs ++ args.toList.map s.eval ++ cs) K Kp
  | _=>False
 | .panic x=>match s.eval x with
  | .iface t d=>Kp (ren V0 (.iface t d)) []
  | _=>False
 | .pick c a b=>match s.eval c with
  | .bool t=>cond t (K (s.eval a) [] []) (K (s.eval b) [] [])
  | _=>False
 | o=>match n9 X s nid o with
  | some out=>cond out.need (K out.val out.ws out.rs) False
  | none=>False

def a97 (ops:Array Oper) (j:Nat):Option Tmp:=(ops[j]?).bind (·.dst)

def K5 (ops:Array Oper) (s:St) (o:Oper) (Ky Kn:Prop):Prop :=
 match o.guard with
 | none=>Ky
 | some (j,want)=>match a97 ops j with
  | none=>Kn
  | some t=>match s.tmps[t]? with
   | none=>Kn
   | some (.bool b)=>match want with
    | true=>cond b Ky Kn
    | false=>cond b Kn Ky
   | some (.tuple _)=>Kn
   | _=>False

def a5c (ops:Array Oper) (s:St) (o:Oper) (Ky Kn:St→Prop):Prop :=
 match o.guard with
 | none=>Ky s
 | some (j,want)=>match a97 ops j with
  | none=>Kn s
  | some t=>match s.tmps[t]? with
   | none=>Kn s
   | some (.bool b)=>match want with
    | true=>cond b (Ky (s.put (some t) (.bool true))) (Kn (s.put (some t) (.bool false)))
    | false=>cond b (Kn (s.put (some t) (.bool true))) (Ky (s.put (some t) (.bool false)))
   | some (.tuple _)=>Kn s
   | _=>False

theorem b3f {s:St} {t:Tmp} {d:D} (h:s.tmps[t]?=some d):s.put (some t) d=s:=by
 have:s.tmps.set t d=s.tmps:=by
  apply List.ext_getElem?
  intro i
  by_cases hi:t=i
  ·subst hi;rw [List.getElem?_set_self (List.getElem?_eq_some_iff.1 h).1,h]
  ·rw [List.getElem?_set_ne hi]
 simp only [St.put,this]

theorem b8a (ops:Array Oper) (s:St) (o:Oper) (Ky Kn:St→Prop):a5c ops s o Ky Kn=K5 ops s o (Ky s) (Kn s):=by
 unfold a5c K5
 cases o.guard with
 | none=>rfl
 | some p =>
  obtain ⟨j,want⟩:=p
  simp only []
  cases a97 ops j with
  | none=>rfl
  | some t =>
   simp only []
   cases hs:s.tmps[t]? with
   | none=>rfl
   | some d=>cases d with
    | bool b=>cases want <;> cases b <;> simp only [cond_true,cond_false,b3f hs]
    | _=>rfl

structure Tr where
 i:Nat
 dst:Option Tmp
 val:D
 ws:List (Nat × o9)
 rs:List Nat

def Tr.app (t:Tr) (s:St):St:=(s.lay t.ws).put t.dst t.val

def V4 (X:Pr) (ops:Array Oper) (nid:Nat→Nat):List Nat→St→List Tr→(St→List Tr→Prop)→(Nat→D→List Nat→List Tr→Prop)→Prop
 | [],s,tr,K,_=>K s tr
 | i :: l,s,tr,K,Kp=>match ops[i]? with
  | none=>V4 X ops nid l s tr K Kp
  | some o=>a5c ops s o
    (fun s=>N3 X s (nid i) o.op (fun d ws rs=>V4 X ops nid l ((s.lay ws).put o.dst d) (⟨i,o.dst,d,ws,rs⟩ :: tr) K Kp) (fun d rs=>Kp i d rs tr))
    (fun s=>V4 X ops nid l (s.put o.dst (.tuple [])) (⟨i,o.dst,.tuple [],[],[]⟩ :: tr) K Kp)

section
variable {X:Pr} {dfs:List Deferred} {w0:World} {S0:k8} {M0:Mp} {S:k8} {M:Mp} {w:World} {a:Act} {s:St}

theorem a83 (h:m8 X dfs w0 S0 M0 S M w a s) {nid:Nat} {o:Oper} {K:D→List (Nat × o9)→List Nat→Prop} {Kp:D→List Nat→Prop} (hv:N3 X s nid o.op K Kp) {next:Act→World→Prop} {Q:Exit→Act→World→Prop}
  (hK:∀ v d ws rs S' M' w',K d ws rs→m8 X dfs w0 S0 M0 S' M' w' a (s.lay ws)→Rd S' M' w' v d→next (a.put o.dst v) w')
  (hKp:∀ v d rs w',Kp d rs→b2t w0 S0 M0 w' v d→Q (.panic [{ v,recovered:=false }]) a w'):o.wp X.P a w next Q:=by
 unfold N3 at hv
 split at hv
 ·rename_i f args ts he
  split at hv
  ·rename_i g fs cs hf
   have h1:=h.at_ hf
   generalize hvf:a.eval f=vf at h1
   cases h1 with
   | func _ first captured _ _ r1 r2 =>
    have hrds:p9 S M w (first.toList ++ args.toList.map a.eval ++ captured.toList) (fs ++ args.toList.map s.eval ++ cs):=(r1.append (b1l h _)).append r2
    obtain ⟨hc1,hc2⟩:=c7q h hrds hv
    have hrun:(execOp a.eval o).run X.P w=.ok (.enter g (first ++ args.map a.eval ++ captured)) w:=by
     simp only [execOp,he,resolve,hvf,Deferred.ofValue,Sem.run_bind,Sem.run_pure,Result.andThen_ok,invoke,hc1]
    unfold Oper.wp
    rw [hrun,Oper.upon_enter]
    have harr:(first.toList ++ args.toList.map a.eval ++ captured.toList).toArray=first ++ args.map a.eval ++ captured:=by
     apply Array.ext';simp
    rw [harr] at hc2
    refine hc2.mono fun e w' hp=>?_
    rcases hp with ⟨v,d,ws,rs,S',M',rfl,hk,hrel,hrd⟩ | ⟨v,d,rs,rfl,hk,hg⟩
    ·exact hK v d ws rs S' M' w' hk hrel hrd
    ·exact hKp v d rs w' hk hg
  ·exact hv.elim
 ·rename_i x he
  split at hv
  ·rename_i t d hx
   have h1:=h.at_ hx
   generalize hvx:a.eval x=vx at h1
   have hrun:(execOp a.eval o).run X.P w=.halt (.panic vx) w:=by
    cases h1 with
    | iface _ v _ r=>simp [execOp,he,hvx,Instr.panic]
   unfold Oper.wp
   rw [hrun,Oper.upon_panic]
   exact hKp vx _ [] w hv ⟨h.keep,S,h.grown,h.within,b5e (O5.no _ _) h1⟩
  ·exact hv.elim
 ·rename_i c x y he
  split at hv
  ·rename_i t ht
   have h1:=h.at_ ht
   generalize hc:a.eval c=vc at h1
   cases h1
   have hrun:(execOp a.eval o).run X.P w=.ok (.value (if t then a.eval x else a.eval y)) w:=by
    simp only [execOp,he,hc];cases t <;> simp [asBool]
   unfold Oper.wp
   rw [hrun,Oper.upon_value]
   cases t
   ·exact hK _ _ _ _ S M w hv h (h.eval y)
   ·exact hK _ _ _ _ S M w hv h (h.eval x)
  ·exact hv.elim
 ·split at hv
  ·rename_i out ho
   cases hn:out.need with
   | false=>rw [hn] at hv;exact hv.elim
   | true =>
   rw [hn] at hv
   obtain ⟨nx,v,S',M',w',hr,hnx,hrel,hrd⟩:=d0j h ho hn
   unfold Oper.wp
   rw [hr]
   rcases hnx with rfl | ⟨rfl,rfl⟩
   ·exact hK v _ _ _ S' M' w' hv hrel hrd
   ·exact hK undef _ _ _ S' M' w' hv hrel hrd
  ·exact hv.elim

theorem a6e (h:m8 X dfs w0 S0 M0 S M w a s) {ops:Array Oper} {o:Oper} {Ky Kn:Prop} (hg:K5 ops s o Ky Kn) :
  (Region.wanted o (yielded ops a.tmps)=true∧Ky)∨(Region.wanted o (yielded ops a.tmps)=false∧Kn):=by
 unfold K5 at hg
 split at hg
 ·rename_i hn
  exact .inl ⟨by simp [Region.wanted,hn],hg⟩
 ·rename_i j want hn
  have hw:∀ r,yielded ops a.tmps j=r→Region.wanted o (yielded ops a.tmps)=(r == some want):=fun r hr=>by simp [Region.wanted,hn,hr]
  have hy:yielded ops a.tmps j=match (a97 ops j).bind (a.tmps[·]?) with | some (.bool b)=>some b | _=>none:=rfl
  split at hg
  ·rename_i ht
   rw [ht] at hy
   exact .inr ⟨by rw [hw _ hy];rfl,hg⟩
  ·rename_i t ht
   rw [ht] at hy
   simp only [Option.bind_some] at hy
   split at hg
   ·rename_i hs
    have hlen:=h.env.length
    have:a.tmps[t]?=none:=by
     rw [List.getElem?_eq_none_iff] at hs
     simp at hlen
     simp;omega
    rw [this] at hy
    exact .inr ⟨by rw [hw _ hy];rfl,hg⟩
   ·rename_i b hs
    obtain ⟨v,hv,hr⟩:=h.env.get' t _ hs
    have hv':a.tmps[t]?=some v:=by simpa using hv
    cases hr
    rw [hv'] at hy
    cases want <;> cases b <;> simp only [cond_true,cond_false] at hg
    ·exact .inl ⟨by rw [hw _ hy];rfl,hg⟩
    ·exact .inr ⟨by rw [hw _ hy];rfl,hg⟩
    ·exact .inr ⟨by rw [hw _ hy];rfl,hg⟩
    ·exact .inl ⟨by rw [hw _ hy];rfl,hg⟩
   ·rename_i ds hs
    obtain ⟨v,hv,hr⟩:=h.env.get' t _ hs
    have hv':a.tmps[t]?=some v:=by simpa using hv
    cases hr
    rw [hv'] at hy
    exact .inr ⟨by rw [hw _ hy];rfl,hg⟩
   ·exact hg.elim

theorem Z4 {ops:Array Oper} {nid:Nat→Nat} {Q:Exit→Act→World→Prop} {K:St→List Tr→Prop} {Kp:Nat→D→List Nat→List Tr→Prop}
  (hK:∀ S' M' w' a' s' tr,K s' tr→m8 X dfs w0 S0 M0 S' M' w' a' s'→Q .normal a' w')
  (hKp:∀ i v d rs tr w' (a':Act),Kp i d rs tr→a'.defers=dfs→b2t w0 S0 M0 w' v d→Q (.panic [{ v,recovered:=false }]) a' w') :
  ∀ (l:List Nat) {S:k8} {M:Mp} {w:World} {a:Act} {s:St} {tr:List Tr},m8 X dfs w0 S0 M0 S M w a s→V4 X ops nid l s tr K Kp→wpOps X.P ops Q l a w
 | [],S,M,w,a,s,tr,h,hv=>hK S M w a s tr hv h
 | i :: l,S,M,w,a,s,tr,h,hv=>by
  simp only [V4] at hv
  simp only [wpOps]
  cases ho:ops[i]? with
  | none=>rw [ho] at hv;exact Z4 hK hKp l h hv
  | some o =>
   rw [ho] at hv
   simp only [] at hv ⊢
   rw [b8a] at hv
   rcases a6e h hv with ⟨hw,hv⟩ | ⟨hw,hv⟩
   ·rw [if_pos hw]
    refine .inl (a83 h hv (fun v d ws rs S' M' w' hk hrel hrd=>?_) (fun v d rs w' hk hg=>hKp i v d rs tr w' a hk h.defers hg))
    exact Z4 hK hKp l (hrel.put o.dst hrd) hk
   ·rw [if_neg (by rw [hw];simp)]
    exact Z4 hK hKp l (h.put o.dst (.tuple _ [] .nil)) hv
end
end Go.Abs
