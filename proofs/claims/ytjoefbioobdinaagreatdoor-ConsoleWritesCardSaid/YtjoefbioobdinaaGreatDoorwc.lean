/-
  Texts that the claim leans on: AmSound8, AmSound9, AmCall, AmMap.
-/
import Derived.Test.YtjoefbioobdinaaGreatDoorwb
import Derived.Laws.StructEq
import Derived.MapKept
namespace Go.Am
set_option linter.unusedSectionVars false
variable {P:Program} [Gl]
theorem zU {a b:IntKind} (h:lq a b=true):a=b:=by cases a<;>cases b<;>first | rfl | (simp [lq] at h)
theorem uM (l:List UInt8):(⟨l.toArray⟩:ByteArray).toList=l:=by
 rw [ByteArray.toList_eq]
theorem I4 (a b:List UInt8):(⟨a.toArray⟩:ByteArray)++⟨b.toArray⟩=⟨(a++b).toArray⟩:=by
 apply ByteArray.ext;rw [ByteArray.data_append];simp
theorem Ol {op:BinOp} {k:IntKind} {a b:Int} {v:DV} {c:List Bool} (hs:wS op=false) (hx:GV op k a b=some (v,c)) (hc:∀b∈c,b=true) (t:Nat) (w:World) :
 ∃u,(binOp op t (.int k a) (.int k b)).run P w = .ok u w∧∀κ h,DR κ h v u:=by
 cases op<;>simp only [GV,Option.some.injEq,Prod.mk.injEq] at hx<;>(try (simp at hx;done))<;>obtain ⟨rfl,rfl⟩:=hx
 case add=>exact ⟨_,by simp [binOp,Op.intArith],fun _ _=>.int _ _⟩
 case sub=>exact ⟨_,by simp [binOp,Op.intArith],fun _ _=>.int _ _⟩
 case mul=>exact ⟨_,by simp [binOp,Op.intArith],fun _ _=>.int _ _⟩
 case quo=>
  have:b≠0:=by simpa using hc
  exact ⟨_,by simp [binOp,Op.intDiv,this],fun _ _=>.int _ _⟩
 case rem=>
  have:b≠0:=by simpa using hc
  exact ⟨_,by simp [binOp,Op.intDiv,this],fun _ _=>.int _ _⟩
 case and=>exact ⟨.int k (bits .and k a b),by simp only [binOp,Op.intBits,bits,ne_eq,not_true_eq_false,if_false];rfl,fun _ _=>.int _ _⟩
 case or=>exact ⟨.int k (bits .or k a b),by simp only [binOp,Op.intBits,bits,ne_eq,not_true_eq_false,if_false];rfl,fun _ _=>.int _ _⟩
 case xor=>exact ⟨.int k (bits .xor k a b),by simp only [binOp,Op.intBits,bits,ne_eq,not_true_eq_false,if_false];rfl,fun _ _=>.int _ _⟩
 case andNot=>exact ⟨.int k (bits .andNot k a b),by simp only [binOp,Op.intBits,bits,ne_eq,not_true_eq_false,if_false];rfl,fun _ _=>.int _ _⟩
 case eql=>exact ⟨_,by simp [binOp,Op.intCmp],fun _ _=>.bool _⟩
 case neq=>exact ⟨_,by simp [binOp,Op.intCmp],fun _ _=>.bool _⟩
 case lss=>exact ⟨_,by simp [binOp,Op.intCmp],fun _ _=>.bool _⟩
 case leq=>exact ⟨_,by simp [binOp,Op.intCmp],fun _ _=>.bool _⟩
 case gtr=>exact ⟨_,by simp [binOp,Op.intCmp],fun _ _=>.bool _⟩
 case geq=>exact ⟨_,by simp [binOp,Op.intCmp],fun _ _=>.bool _⟩
theorem Om {op:BinOp} {a b:List UInt8} {v:DV} {c:List Bool} (hx:GX op a b=some (v,c)) (hc:∀b∈c,b=true) (t:Nat) (w:World) :
 ∃u,(binOp op t (.string ⟨a.toArray⟩) (.string ⟨b.toArray⟩)).run P w = .ok u w∧∀κ h,DR κ h v u:=by
 cases op<;>simp only [GX,Option.some.injEq,Prod.mk.injEq] at hx<;>(try (simp at hx;done))<;>obtain ⟨rfl,rfl⟩:=hx
 case add=>
  have hle:a.length+b.length≤2 ^ 62:=by simpa using hc
  have h62:(2:Nat) ^ 62=4611686018427387904:=by decide
  refine ⟨.string ⟨(a++b).toArray⟩,?_,fun _ _=>.str _⟩;simp only [binOp,Op.stringOp];rw [if_neg (by rw [V7];simp only [ByteArray.size,List.size_toArray];omega),I4];rfl
 all_goals
  refine ⟨_,by simp only [binOp,Op.stringOp,uM];rfl,fun _ _=>.bool _⟩
theorem Oo {d:Option TypeDesc} {a b:DV} {r:Bool} (h:YL d a b=some r) {κ:bE} {hp:Heap} {u v:Value} (ra:DR κ hp a u) (rb:DR κ hp b v) {t n:Nat} (hd:(Env.of P).und t=d) (w:World) :
 (Op.equalIn (n+1) t u v).run P w = .ok r w∧(Env.of P).isAgg t=false∧d.isSome=true:=by
 unfold YL at h;split at h
 ·rename_i k0 k x k' y;cases hke:lq k k' with
  | false=>rw [hke] at h;simp at h
  | true=>
    have:=zU hke;subst this
    rw [hke] at h;simp only [cond_true,Option.some.injEq] at h;subst h;cases ra;cases rb;exact ⟨run_equalIn_int w n t k k0 x y hd,by simp [Env.isAgg,hd],rfl⟩
 ·injection h with h;subst h;cases ra;cases rb;rw [run_equalIn_string w n t _ _ hd,uM,uM];exact ⟨rfl,by simp [Env.isAgg,hd],rfl⟩
 ·injection h with h;subst h;cases ra;cases rb;exact ⟨run_equalIn_bool' w n t _ _ hd,by simp [Env.isAgg,hd],rfl⟩
 ·simp at h
theorem qV {κ:bE} {hp:Heap} {xs ys:Array Value} {n:Nat} (w:World):∀(fs:List Field) (k:Nat) (a b:List DV) (r:Bool),jo (Env.of P) k fs a b=some r→
 (∀(i:Nat) (x:DV) (v:Value),a[i]? = some x→xs[k+i]? = some v→DR κ hp x v)→(∀(i:Nat) (x:DV) (v:Value),b[i]? = some x→ys[k+i]? = some v→DR κ hp x v)→
 k+a.length≤xs.size→k+b.length≤ys.size→(Op.eqFields (n+1) xs ys fs).run P w = .ok r w
 | [],k,a,b,r,h,_,_,_,_=>by
   unfold jo at h;cases a<;>cases b<;>simp at h
   subst h;rfl
 | f::fs,k,a,b,r,h,ha,hb,la,lb=>by
   cases a with
   | nil=>simp [jo] at h
   | cons x a=>
     cases b with
     | nil=>simp [jo] at h
     | cons y b=>
       simp only [jo] at h;cases hg:((f.name != "_")&&Nat.beq f.offset k) with
       | false=>rw [hg] at h;simp at h
       | true=>
         rw [hg] at h;simp only [cond_true] at h;simp only [Bool.and_eq_true,bne_iff_ne] at hg;have hoff:=cB hg.2;cases h1:YL ((Env.of P).und f.type) x y with
         | none=>rw [h1] at h;simp at h
         | some r1=>
           cases h2:jo (Env.of P) (k+1) fs a b with
           | none=>rw [h1,h2] at h;simp at h
           | some r2=>
             rw [h1,h2] at h;simp only [Option.some.injEq] at h;subst h;have lx:k < xs.size:=by simp at la;omega
             have ly:k < ys.size:=by simp at lb;omega
             obtain ⟨q1,q2,q3⟩:=Oo (n:=n) h1 (ha 0 x xs[k] rfl (by simp [lx])) (hb 0 y ys[k] rfl (by simp [ly])) rfl w;obtain ⟨d,hd⟩:=Option.isSome_iff_exists.1 q3
             have pt:∀(zs:Array Value) (hz:k < zs.size),(part f.type zs f.offset).run P w = .ok zs[k] w:=by
              intro zs hz;simp only [part,Sem.run_bind,zM rfl (show P.underlying f.type=some d from hd),Result.andThen_ok,q2,hoff,Bool.false_eq_true,if_false]
              simp [hz]
             simp only [Op.eqFields];rw [if_pos hg.1];simp only [Sem.run_bind,pt xs lx,pt ys ly,Result.andThen_ok,q1];cases r1 with
             | false=>simp
             | true=>
               simp only [Bool.not_true,Bool.false_eq_true,if_false,Bool.true_and];exact qV w fs (k+1) a b r2 h2 (fun i x v hx hv=>ha (i+1) x v (by simpa using hx) (by rw [←hv];congr 1;omega)) (fun i x v hx hv=>hb (i+1) x v (by simpa using hx) (by rw [←hv];congr 1;omega)) (by simp at la;omega) (by simp at lb;omega)
theorem jX {op:BinOp} {b:Bool} {v:RV} (h:wD op b=some v):(op = .eql∧v = .d (.bool b))∨(op = .neq∧v = .d (.bool (!b))):=by
 cases op<;>simp [wD] at h
 ·exact .inl ⟨rfl,h.symm⟩
 ·exact .inr ⟨rfl,h.symm⟩
theorem zV {κ:bE} {φ:bP} {O:Tab} {h:Heap} {x:RV} {v:Value} (r:bJ κ φ O h x v) (hp:zK x=true):∃ad,v = .pointer (some ad):=by
 cases r<;>first | exact ⟨_,rfl⟩ | (simp [zK] at hp)
theorem wW (n t:Nat) {e:Nat} (b:Option Addr) (hu:(Env.of P).und t=some (.pointer e)) (w:World):(Op.equalIn (n+1) t (.pointer none) (.pointer b)).run P w = .ok b.isNone w:=by
 simp only [Op.equalIn,Sem.run_bind,aL hu,Result.andThen_ok,Sem.run_pure]
theorem He (n t:Nat) {e:Nat} (b:Addr) (hu:(Env.of P).und t=some (.pointer e)) (w:World):(Op.equalIn (n+1) t (.pointer (some b)) (.pointer none)).run P w = .ok false w:=by
 simp only [Op.equalIn,Sem.run_bind,aL hu,Result.andThen_ok,Sem.run_pure]
theorem Hf (n t:Nat) {k e:Nat} (b:Option Nat) (hu:(Env.of P).und t=some (.map k e)) (w:World):(Op.equalIn (n+1) t (.map none) (.map b)).run P w = .ok b.isNone w:=by
 simp only [Op.equalIn,Sem.run_bind,aL hu,Result.andThen_ok,Sem.run_pure]
theorem Hg (n t:Nat) {k e:Nat} (b:Nat) (hu:(Env.of P).und t=some (.map k e)) (w:World):(Op.equalIn (n+1) t (.map (some b)) (.map none)).run P w = .ok false w:=by
 simp only [Op.equalIn,Sem.run_bind,aL hu,Result.andThen_ok,Sem.run_pure]
def Fp:Value→Bool
 | .pointer _=>true
 | .map _=>true
 | .bool _=>true
 | _=>false
theorem je {t:Nat} {u v:Value} {r:Bool} (w:World) (hu:Fp u=true) (hv:Fp v=true) (h:(Op.equalIn (9999+1) t u v).run P w = .ok r w) :
 (binOp .eql t u v).run P w = .ok (.bool r) w∧(binOp .neq t u v).run P w = .ok (.bool (!r)) w:=by
 have h' : (Op.equal t u v).run P w = .ok r w:=h;cases u<;>cases v<;>first | (simp [Fp] at hu hv;done) | exact ⟨by simp only [binOp,Sem.run_bind,h',Result.andThen_ok,Sem.run_pure],by simp only [binOp,Sem.run_bind,h',Result.andThen_ok,Sem.run_pure]⟩
theorem Rk {κ:bE} {φ:bP} {w:World} {s:cu} {a:Act} (F:aA κ φ w s a) {op:BinOp} {t:Nat} {x y:RV} {xo yo:Operand} {v u:Value} {res:dz}
 (hx:J6 (Env.of P) op t x y=some res) (hc:∀b∈res.conds,b=true) (r:bJ κ φ s.O w.heap x v) (r2:bJ κ φ s.O w.heap y u) :
 Out P κ φ w s a res.val res.upd (do eqGuard op t xo yo v u;binOp op t v u):=by
 have fin:∀(z:Value),(eqGuard op t xo yo v u).run P w = .ok () w→(binOp op t v u).run P w = .ok z w→bJ κ φ s.O w.heap res.val z→res.upd=[]→Out P κ φ w s a res.val res.upd (do eqGuard op t xo yo v u;binOp op t v u):=by
  intro z h1 h2 h3 h4;rw [h4];exact Out.pure F (by simp [h1,h2]) h3
 have gd:(∀xs ys,¬(v = .agg xs∧u = .agg ys))→¬(v = .nilIface∧u = .nilIface)→(eqGuard op t xo yo v u).run P w = .ok () w:=by
  intro h1 h2;unfold eqGuard;cases op<;>first | rfl | (cases v<;>cases u<;>first | rfl | exact absurd ⟨rfl,rfl⟩ (h1 _ _) | exact absurd ⟨rfl,rfl⟩ h2)
 unfold J6 at hx;split at hx
 ·
  rename_i k m k' n;cases r with
  | d hr=>
  cases r2 with
  | d hr2=>
  cases hr;cases hr2;have g:=gd (by rintro _ _ ⟨h,_⟩;cases h) (by rintro ⟨h,_⟩;cases h);cases hsh:wS op with
  | true=>
    rw [hsh] at hx;simp only [cond_true] at hx;cases op<;>simp [wS] at hsh
    ·injection hx with hx;subst hx;have hn:0≤n:=by simpa using hc
     refine fin _ g ?_ (.d (.int _ _)) rfl;simp only [binOp,Op.shift];rw [if_neg (by omega)];rfl
    ·injection hx with hx;subst hx;have hn:0≤n:=by simpa using hc
     refine fin _ g ?_ (.d (.int _ _)) rfl;simp only [binOp,Op.shift];rw [if_neg (by omega)];rfl
  | false=>
    rw [hsh] at hx;simp only [cond_false] at hx;cases hke:lq k k' with
    | false=>rw [hke] at hx;simp at hx
    | true=>
      have:=zU hke;subst this
      rw [hke] at hx;simp only [cond_true] at hx;cases he:GV op k m n with
      | none=>rw [he] at hx;simp at hx
      | some p=>
        obtain ⟨dv,cc⟩:=p;rw [he] at hx;simp only [Option.some.injEq] at hx;subst hx;obtain ⟨z,z1,z2⟩:=Ol hsh he hc t w;exact fin z g z1 (.d (z2 _ _)) rfl
 ·
  rename_i p q;cases r with
  | d hr=>
  cases r2 with
  | d hr2=>
  cases hr;cases hr2;have g:=gd (by rintro _ _ ⟨h,_⟩;cases h) (by rintro ⟨h,_⟩;cases h);cases he:GX op p q with
  | none=>rw [he] at hx;simp at hx
  | some pp=>
    obtain ⟨dv,cc⟩:=pp;rw [he] at hx;simp only [Option.some.injEq] at hx;subst hx;obtain ⟨z,z1,z2⟩:=Om he hc t w;exact fin z g z1 (.d (z2 _ _)) rfl
 ·
  rename_i p q;cases r with
  | d hr=>
  cases r2 with
  | d hr2=>
  cases hr;cases hr2;have g:=gd (by rintro _ _ ⟨h,_⟩;cases h) (by rintro ⟨h,_⟩;cases h);split at hx
  ·rename_i hu he;injection hx with hx;subst hx;rcases jX he with ⟨rfl,rfl⟩ | ⟨rfl,rfl⟩
   ·exact fin (.bool (p==q)) g (je w rfl rfl (run_equalIn_bool' w 9999 t p q hu)).1 (.d (.bool _)) rfl
   ·exact fin (.bool (!(p==q))) g (je w rfl rfl (run_equalIn_bool' w 9999 t p q hu)).2 (.d (.bool _)) rfl
  ·simp at hx
 ·
  rename_i p q;cases r with
  | d hr=>
  cases r2 with
  | d hr2=>
  cases hr with
  | agg hl hs hr=>
  cases hr2 with
  | agg hl2 hs2 hr2=>
  rename_i vs us;split at hx
  ·rename_i fs hu;split at hx
   ·rename_i b he;cases hok:(Env.of P).Q7 t with
    | false=>rw [hok] at hx;simp at hx
    | true=>
      rw [hok] at hx;simp only [cond_true] at hx;simp only [Env.of,Bool.and_eq_true,Bool.not_eq_true'] at hok;split at hx
      ·rename_i z hz;injection hx with hx;subst hx;have g:=run_eqGuard_agg w op t xo yo vs us hok.2;have hfo:P.fieldsOf t=fs:=by simp only [Program.fieldsOf];rw [show P.underlying t=some (.struct fs) from hu]
       have heq:(Op.equalIn 10000 t (.agg vs) (.agg us)).run P w = .ok b w:=by
        rw [run_equalIn_struct w 9999 t vs us (by rw [hfo];exact hu) hok.1,hfo];exact qV w fs.toList 0 p q b he (fun i x v hx hv=>hr i x v hx (by simpa using hv)) (fun i x v hx hv=>hr2 i x v hx (by simpa using hv)) (by omega) (by omega)
       rcases jX hz with ⟨rfl,rfl⟩ | ⟨rfl,rfl⟩
       ·exact fin (.bool b) g (by rw [run_eql_struct,heq];rfl) (.d (.bool _)) rfl
       ·exact fin (.bool (!b)) g (by rw [run_neq_struct,heq];rfl) (.d (.bool _)) rfl
      ·simp at hx
   ·simp at hx
  ·simp at hx
 ·
  cases r with
  | d hr=>
  cases r2 with
  | d hr2=>
  cases hr;cases hr2;have g:=gd (by rintro _ _ ⟨h,_⟩;cases h) (by rintro ⟨h,_⟩;cases h);split at hx
  ·rename_i el z hu he;injection hx with hx;subst hx;rcases jX he with ⟨rfl,rfl⟩ | ⟨rfl,rfl⟩
   ·exact fin (.bool true) g (je w rfl rfl (wW 9999 t none hu w)).1 (.d (.bool _)) rfl
   ·exact fin (.bool false) g (je w rfl rfl (wW 9999 t none hu w)).2 (.d (.bool _)) rfl
  ·simp at hx
 ·
  rename_i p _;cases hp:zK x with
  | false=>rw [hp] at hx;simp at hx
  | true=>
    rw [hp] at hx;simp only [cond_true] at hx;obtain ⟨ad,rfl⟩:=zV r hp;cases r2 with
    | d hr2=>
    cases hr2;have g:=gd (by rintro _ _ ⟨h,_⟩;cases h) (by rintro ⟨h,_⟩;cases h);split at hx
    ·rename_i el z hu he;injection hx with hx;subst hx;rcases jX he with ⟨rfl,rfl⟩ | ⟨rfl,rfl⟩
     ·exact fin (.bool false) g (je w rfl rfl (He 9999 t ad hu w)).1 (.d (.bool _)) rfl
     ·exact fin (.bool true) g (je w rfl rfl (He 9999 t ad hu w)).2 (.d (.bool _)) rfl
    ·simp at hx
 ·
  cases hp:zK y with
  | false=>rw [hp] at hx;simp at hx
  | true=>
    rw [hp] at hx;simp only [cond_true] at hx;obtain ⟨ad,rfl⟩:=zV r2 hp;cases r with
    | d hr=>
    cases hr;have g:=gd (by rintro _ _ ⟨h,_⟩;cases h) (by rintro ⟨h,_⟩;cases h);split at hx
    ·rename_i el z hu he;injection hx with hx;subst hx;rcases jX he with ⟨rfl,rfl⟩ | ⟨rfl,rfl⟩
     ·exact fin (.bool false) g (je w rfl rfl (wW 9999 t (some ad) hu w)).1 (.d (.bool _)) rfl
     ·exact fin (.bool true) g (je w rfl rfl (wW 9999 t (some ad) hu w)).2 (.d (.bool _)) rfl
    ·simp at hx
 ·
  cases r with
  | map hφ=>
  cases r2 with
  | d hr2=>
  cases hr2;have g:=gd (by rintro _ _ ⟨h,_⟩;cases h) (by rintro ⟨h,_⟩;cases h);split at hx
  ·rename_i el z1 z hu he;injection hx with hx;subst hx;rcases jX he with ⟨rfl,rfl⟩ | ⟨rfl,rfl⟩
   ·exact fin (.bool false) g (je w rfl rfl (Hg 9999 t _ hu w)).1 (.d (.bool _)) rfl
   ·exact fin (.bool true) g (je w rfl rfl (Hg 9999 t _ hu w)).2 (.d (.bool _)) rfl
  ·simp at hx
 ·
  cases r with
  | d hr=>
  cases r2 with
  | d hr2=>
  cases hr;cases hr2;have g:=gd (by rintro _ _ ⟨h,_⟩;cases h) (by rintro ⟨h,_⟩;cases h);split at hx
  ·rename_i el z1 z hu he;injection hx with hx;subst hx;rcases jX he with ⟨rfl,rfl⟩ | ⟨rfl,rfl⟩
   ·exact fin (.bool true) g (je w rfl rfl (Hf 9999 t none hu w)).1 (.d (.bool _)) rfl
   ·exact fin (.bool false) g (je w rfl rfl (Hf 9999 t none hu w)).2 (.d (.bool _)) rfl
  ·simp at hx
 ·simp at hx
theorem DK (n t:Nat) {e:TypeId} (a:Option Addr) (l c l' c' : Nat) (hu:P.underlying t=some (.slice e)) (w:World):(Op.equalIn (n+1) t (.slice a l c) (.slice none l' c')).run P w = .ok a.isNone w:=by
 cases a<;>simp [Op.equalIn,run_underlying hu]
theorem sN {t l c:Nat} {base:Option Addr} {r:Bool} (w:World) (h:(Op.equalIn (9999+1) t (.slice base l c) (.slice none 0 0)).run P w = .ok r w) :
 (binOp .eql t (.slice base l c) (.slice none 0 0)).run P w = .ok (.bool r) w∧(binOp .neq t (.slice base l c) (.slice none 0 0)).run P w = .ok (.bool (!r)) w:=by
 have h' : (Op.equal t (.slice base l c) (.slice none 0 0)).run P w = .ok r w:=h;exact ⟨by simp only [binOp,Sem.run_bind,h',Result.andThen_ok,Sem.run_pure],by simp only [binOp,Sem.run_bind,h',Result.andThen_ok,Sem.run_pure]⟩
theorem Fq {κ:bE} {φ:bP} {w:World} {s:cu} {a:Act} (F:aA κ φ w s a) {x:RV} {v:Value} {b:Bool} (hx:pX s.O x=some b) (r:bJ κ φ s.O w.heap x v) :
 ∃base l c,v = .slice base l c∧base.isNone=b:=by
 unfold pX at hx;split at hx
 ·rename_i sz els full;cases r with
  | d hr=>
  split at hx
  ·cases hg:(Nat.beq sz 0&&full) with
   | false=>rw [hg] at hx;simp at hx
   | true=>
     rw [hg] at hx;simp only [cond_true,Option.some.injEq] at hx;subst hx;simp only [Bool.and_eq_true] at hg
     have:=cB hg.1;subst this
     cases hr with
     | iU hf=>have:=(hf hg.2).2 rfl;subst this;exact ⟨_,_,_,rfl,rfl⟩
     | aC _ _ hf _ _ _ _=>have:=(hf hg.2).2;omega
  ·injection hx with hx;subst hx;cases hr with
   | aC _ _ _ _ _ _ _=>exact ⟨_,_,_,rfl,rfl⟩
 ·rename_i i sz;have ho:=F.objs i;cases r with
  | own hφ hb hcap hlc hlen=>
    split at hx
    ·injection hx with hx;subst hx;exact ⟨_,_,_,rfl,rfl⟩
    ·injection hx with hx;subst hx;exact ⟨_,_,_,rfl,rfl⟩
    ·cases hx
  | gL hφ=>
    split at hx
    ·rename_i hO;rw [hO] at ho;rcases ho with ⟨_,h2⟩ | ⟨_,_,_,h1,_⟩
     ·cases h2
     ·rw [h1] at hφ;cases hφ
    ·rename_i hO;rw [hO] at ho;rcases ho with ⟨_,h2⟩ | ⟨_,_,_,_,h1,_⟩
     ·cases h2
     ·rw [h1] at hφ;cases hφ
    ·cases hx
 ·injection hx with hx;subst hx;cases r with
  | sub hφ hb hcap hlc=>exact ⟨_,_,_,rfl,rfl⟩
 ·cases hx
theorem Oq {κ:bE} {φ:bP} {w:World} {s:cu} {a:Act} (F:aA κ φ w s a) {op:BinOp} {t:Nat} {x y:RV} {xo yo:Operand} {v u:Value} {res:dz}
 (hx:uG (Env.of P) s.O op t x y=some res) (hc:∀b∈res.conds,b=true) (r:bJ κ φ s.O w.heap x v) (r2:bJ κ φ s.O w.heap y u) :
 Out P κ φ w s a res.val res.upd (do eqGuard op t xo yo v u;binOp op t v u):=by
 unfold uG at hx;split at hx
 ·unfold xu at hx;split at hx
  ·rename_i e b hu hb;split at hx
   ·rename_i z he;injection hx with hx;subst hx;obtain ⟨base,l,c,rfl,hbb⟩:=Fq F hb r
    have hu2:u = .slice none 0 0:=by
     cases r2 with
     | d hr=>
     cases hr with
     | iU hf=>have:=hf rfl;rw [this.1,this.2 rfl]
     | aC _ _ hf _ _ _ _=>have:=(hf rfl).2;omega
    subst hu2
    have g:(eqGuard op t xo yo (.slice base l c) (.slice none 0 0)).run P w = .ok () w:=by
     unfold eqGuard;cases op<;>rfl
    have hq:=DK (P:=P) 9999 t base l c 0 0 hu w;rw [hbb] at hq;rcases jX he with ⟨rfl,rfl⟩ | ⟨rfl,rfl⟩
    ·exact Out.pure F (v:=.bool b) (by simp only [Sem.run_bind,g,Result.andThen_ok];exact (sN w hq).1) (.d (.bool _))
    ·exact Out.pure F (v:=.bool (!b)) (by simp only [Sem.run_bind,g,Result.andThen_ok];exact (sN w hq).2) (.d (.bool _))
   ·cases hx
  ·cases hx
 ·exact Rk F hx hc r r2
theorem V9 {κ:bE} {φ:bP} {w:World} {s:cu} {a:Act} (F:aA κ φ w s a) {op:UnOp} {x:RV} {v:Value} {res:dz}
 (hx:Q8 op x=some res) (r:bJ κ φ s.O w.heap x v):Out P κ φ w s a res.val res.upd (Op.unary op v):=by
 unfold Q8 at hx;split at hx
 ·injection hx with hx;subst hx;cases r with
  | d hr=>cases hr;exact Out.pure F (by simp only [Op.unary];rfl) (.d (.bool _))
 ·injection hx with hx;subst hx;cases r with
  | d hr=>cases hr;exact Out.pure F (by simp only [Op.unary,Op.intArith];rfl) (.d (.int _ _))
 ·injection hx with hx;subst hx;cases r with
  | d hr=>cases hr;exact Out.pure F (by simp only [Op.unary,Op.intBits];rfl) (.d (by simp only [bits];exact .int _ _))
 ·simp at hx
theorem eU {κ:bE} {h:Heap} (n:Int):DR κ h (.int .i64 n) (goInt n):=.int _ _
theorem Rl {κ:bE} {φ:bP} {w:World} {s:cu} {a:Act} (F:aA κ φ w s a) {t:Nat} {x:RV} {v:Value} {res:dz} {ty:Nat}
 (hx:zL (Env.of P) s.O t x=some res) (r:bJ κ φ s.O w.heap x v):Out P κ φ w s a res.val res.upd (Builtin.len_ #[t] ty #[v]):=by
 have st:∀(d:TypeDesc) (n:Nat),(Env.of P).und t=some d→
  ((match d,v with
    | .string,.string s=>pure (goInt s.size)
    | .array n _,_=>pure (goInt n)
    | .slice _,.slice _ n _=>pure (goInt n)
    | .map _ _,.map none=>pure (goInt 0)
    | .map _ _,.map (some r)=>do
      let .map entries _ ←getObj r | stuck "len: map expected"
      pure (goInt entries.size)
    | _,_=>stuck ""):Sem Value).run P w = .ok (goInt n) w→(Builtin.len_ #[t] ty #[v]).run P w = .ok (goInt n) w:=by
  intro d n hu hrun;simp only [Builtin.len_];rw [show (#[t]:Array TypeId)[0]? = some t from rfl,show (#[v]:Array Value)[0]? = some v from rfl]
  simp only [Sem.run_bind,aL hu,Result.andThen_ok];rw [←hrun];cases d<;>cases v<;>first | rfl | (simp [stuck] at hrun;done) | skip
  all_goals (try (rename_i o;cases o<;>first | rfl | (simp [stuck] at hrun;done)))
 have sl:∀sz els,(∃e,(Env.of P).und t=some (.slice e))→y8 κ w.heap v sz els→Out P κ φ w s a (.d (.int .i64 (els.length:Int))) [] (Builtin.len_ #[t] ty #[v]):=by
  rintro sz els ⟨e,hu⟩ ⟨base,cap,rfl,_,_⟩
  exact Out.pure F (st _ els.length hu rfl) (.d (eU _))
 unfold zL at hx;split at hx
 ·rename_i hu;injection hx with hx;subst hx;cases r with
  | d hr=>
    cases hr;rename_i str;exact Out.pure F (st _ str.length hu (by simp [ByteArray.size])) (.d (eU _))
 ·rename_i hu;injection hx with hx;subst hx;cases r with
  | d hr=>exact sl _ _ ⟨_,hu⟩ hr.J9
 ·rename_i e i sz hu;cases hO:s.O i with
  | none=>rw [hO] at hx;simp at hx
  | some p=>
    rw [hO] at hx;cases p<;>(try simp only at hx)<;>try (simp at hx;done)
    all_goals
     rename_i sz' els;injection hx with hx;subst hx;cases r with
     | own hφ hb hcap hlc hlen=>
       have:=hlen els.length (by rw [hO];rfl)
       subst this;exact Out.pure F (st _ els.length hu rfl) (.d (eU _))
     | gL hφ=>
       have ho:=F.objs i;rw [hO] at ho;rcases xC (by first | exact .inl ⟨_,ho⟩ | exact .inr ho) with ⟨h1,h2⟩ | ⟨b,c,ty,fz,h1,h3,h5⟩
       ·subst h2;exact Out.pure F (st _ 0 hu rfl) (.d (eU _))
       ·rw [h1] at hφ;cases hφ
 ·rename_i e i sz off len hu;injection hx with hx;subst hx;cases r with
  | sub hφ hb hcap hlc=>exact Out.pure F (st _ len hu rfl) (.d (eU _))
  | oH hφ=>exact Out.pure F (st _ 0 hu rfl) (.d (eU _))
 ·rename_i n e hu;injection hx with hx;subst hx;exact Out.pure F (st _ n hu (by cases v<;>rfl)) (.d (eU _))
 ·rename_i hu;injection hx with hx;subst hx;cases r with
  | d hr=>cases hr;exact Out.pure F (st _ 0 hu rfl) (.d (eU _))
 ·rename_i i hu;cases hO:s.O i with
  | none=>rw [hO] at hx;simp at hx
  | some p=>
    rw [hO] at hx;cases p<;>(try simp only at hx)<;>try (simp at hx;done)
    rename_i es;injection hx with hx;subst hx;cases r with
    | map hφ=>
      have ho:=F.objs i;rw [hO] at ho;obtain ⟨b,eB,clock,h1,h2,h3,h4,h5⟩:=ho;rw [h1] at hφ;injection hφ with hφ;subst hφ;exact Out.pure F (st _ es.length hu (by simp [getObj,Sem.run,h3,h4.1])) (.d (eU _))
 ·simp at hx
theorem zW {κ:bE} {φ:bP} {w:World} {s:cu} {a:Act} (F:aA κ φ w s a) {mn:Bool} {x y:RV} {v u:Value} {res:dz} {tys:Array TypeId} {ty:Nat}
 (hx:sK mn x y=some res) (r:bJ κ φ s.O w.heap x v) (r2:bJ κ φ s.O w.heap y u) :
 Out P κ φ w s a res.val res.upd (if mn then Builtin.min_ tys ty #[v,u] else Builtin.max_ tys ty #[v,u]):=by
 unfold sK at hx;split at hx
 ·injection hx with hx;subst hx;cases r with
  | d hr=>
  cases r2 with
  | d hr2=>
  cases hr;cases hr2;cases mn
  ·exact Out.pure F (by simp only [Builtin.max_,Builtin.max2,List.foldlM_cons,List.foldlM_nil];rfl) (.d (.int _ _))
  ·exact Out.pure F (by simp only [Builtin.min_,Builtin.min2,List.foldlM_cons,List.foldlM_nil];rfl) (.d (.int _ _))
 ·simp at hx
inductive ze (κ:bE) (φ:bP) (O:Tab) (h:Heap):Option RV→Option Value→Prop where
 | none:ze κ φ O h none none
 | some {x:RV} {v:Value} (r:bJ κ φ O h x v):ze κ φ O h (some x) (some v)
theorem jO {κ:bE} {φ:bP} {O:Tab} {h:Heap} {x:Option RV} {v:Option Value} {n:Option Int} (hx:oM x=some n) (r:ze κ φ O h x v) :
 (n=none∧v=none)∨∃k m,n=some m∧v=some (.int k m):=by
 cases r with
 | none=>simp [oM] at hx;exact .inl ⟨hx.symm,rfl⟩
 | some r=>
   rename_i x v;cases x<;>simp only [oM] at hx<;>try (simp at hx;done)
   rename_i d;cases d<;>(try simp only at hx)<;>try (simp at hx;done)
   injection hx with hx;subst hx;cases r with
   | d hr=>cases hr;exact .inr ⟨_,_,rfl,rfl⟩
theorem fU {k:IntKind} {n:Int} {y:Nat} {c:BoundsCode} (h:0≤n∧n≤(y:Int)) (w:World):(Instr.sliceBound (.int k n) y c).run P w = .ok n.toNat w:=by
 simp only [Instr.sliceBound,asIntOf,Sem.run_bind,Sem.run_pure,Result.andThen_ok];rw [if_pos h];rfl
theorem iJ {isSlice:Bool} {len cap:Nat} {lo hi:Option Int} {xM hiv:Option Value}
 (hlo:(lo=none∧xM=none)∨∃k m,lo=some m∧xM=some (.int k m)) (hhi:(hi=none∧hiv=none)∨∃k m,hi=some m∧hiv=some (.int k m))
 (hc:∀b∈wE len lo hi,b=true) (hle:len≤cap) (w:World) :
 (Instr.sliceBounds isSlice len cap xM hiv none).run P w = .ok (bO lo,dK len hi,cap) w∧bO lo≤dK len hi∧dK len hi≤len:=by
 rcases hlo with ⟨rfl,rfl⟩ | ⟨k,m,rfl,rfl⟩<;>rcases hhi with ⟨rfl,rfl⟩ | ⟨k',m',rfl,rfl⟩
 ·exact ⟨by simp [Instr.sliceBounds,bO,dK],by simp [bO],Nat.le_refl _⟩
 ·have h1:0≤m'∧m'≤(len:Int):=by simpa [wE] using hc
  refine ⟨?_,by simp [bO],by simp only [dK];omega⟩;simp only [Instr.sliceBounds,Sem.run_bind,Sem.run_pure,Result.andThen_ok,fU (P:=P) (k:=k') (show 0≤m'∧m'≤(cap:Int) by omega),bO,dK]
 ·have h1:0≤m∧m≤(len:Int):=by simpa [wE] using hc
  refine ⟨?_,by simp only [bO,dK];omega,Nat.le_refl _⟩;simp only [Instr.sliceBounds,Sem.run_bind,Sem.run_pure,Result.andThen_ok,fU (P:=P) (k:=k) h1,bO,dK]
 ·have h1:(0≤m'∧m'≤(len:Int))∧0≤m∧m≤((m'.toNat:Nat):Int):=⟨by simpa using hc (decide (0≤m'∧m'≤(len:Int))) (by simp [wE]),by simpa using hc (decide (0≤m∧m≤((m'.toNat:Nat):Int))) (by simp [wE])⟩;refine ⟨?_,by simp only [bO,dK];omega,by simp only [dK];omega⟩;simp only [Instr.sliceBounds,Sem.run_bind,Sem.run_pure,Result.andThen_ok,fU (P:=P) (k:=k') (show 0≤m'∧m'≤(cap:Int) by omega),fU (P:=P) (k:=k) h1.2,bO,dK]
theorem Hl {α:Type} (s:List α) (lo hi:Option Int) (h:dK s.length hi≤s.length):sJ s lo hi=(s.drop (bO lo)).take (dK s.length hi-bO lo):=by
 cases lo<;>cases hi<;>simp only [sJ,bO,dK] at *
 ·simp
 ·simp
 ·rename_i l;rw [List.take_of_length_le (by simp)]
 ·rw [List.drop_take]
theorem Fu (s:List UInt8) (l h:Nat):(⟨s.toArray⟩:ByteArray).extract l h=⟨((s.drop l).take (h-l)).toArray⟩:=by
 apply ByteArray.ext;simp [ByteArray.data_extract]
theorem Km {κ:bE} {φ:bP} {w:World} {s:cu} {a:Act} (F:aA κ φ w s a) {t:Nat} {x:RV} {lo hi mx:Option RV} {v:Value} {xM hiv JY:Option Value} {res:dz}
 (hx:pY (Env.of P) s.O t x lo hi mx=some res) (hc:∀b∈res.conds,b=true) (r:bJ κ φ s.O w.heap x v)
 (YM:ze κ φ s.O w.heap lo xM) (YN:ze κ φ s.O w.heap hi hiv) (YO:ze κ φ s.O w.heap mx JY) :
 Out P κ φ w s a res.val res.upd (Instr.sliceAt t v xM hiv JY):=by
 unfold pY at hx;split at hx
 ·
  rename_i l h hl hh;cases YO;have vl:=jO hl YM;have vh:=jO hh YN;split at hx
  ·
   rename_i str hu;injection hx with hx;subst hx;cases r with
   | d hr=>
     cases hr;obtain ⟨b1,b2,b3⟩:=iJ (P:=P) (isSlice:=false) (cap:=str.length) vl vh hc (Nat.le_refl _) w;refine Out.pure F (v:=.string ⟨(sJ str l h).toArray⟩) ?_ (.d (.str _));simp only [Instr.sliceAt,Instr.slice,Sem.run_bind,aL hu,Result.andThen_ok];have hsz:(⟨str.toArray⟩:ByteArray).size=str.length:=by simp [ByteArray.size]
     simp only [Option.isSome_none,Bool.false_eq_true,if_false,Sem.run_bind,Sem.run_pure,Result.andThen_ok,hsz,b1,Fu];rw [Hl _ _ _ b3]
  ·
   rename_i e sz els full hu;cases hz:(Env.of P).size e with
   | none=>rw [hz] at hx;simp at hx
   | some z=>
     rw [hz] at hx;simp only at hx;cases hg:(Nat.beq sz z||els.isEmpty) with
     | false=>rw [hg] at hx;simp at hx
     | true=>
       rw [hg] at hx;simp only [cond_true,Option.some.injEq] at hx;subst hx;cases r with
       | d hr=>
       have hrun:∀base cap,els.length≤cap→v = .slice base els.length cap→(Instr.sliceAt t v xM hiv none).run P w = .ok (.slice (if cap=bO l then base else base.map (·.add (bO l*z))) (dK els.length h-bO l) (cap-bO l)) w:=by
        rintro base cap hcap rfl
        obtain ⟨b1,b2,b3⟩:=iJ (P:=P) (isSlice:=true) vl vh hc hcap w;simp only [Instr.sliceAt,Instr.slice,Sem.run_bind,aL hu,Result.andThen_ok,b1,aY hz,Sem.run_pure]
       obtain ⟨_,b2,b3⟩:=iJ (P:=P) (isSlice:=true) vl vh hc (Nat.le_refl _) w;have hcl:=Hl els l h b3;by_cases hemp:dK els.length h-bO l=0
       ·obtain ⟨base,cap,rfl,hcap,_⟩:=hr.J9;refine Out.pure F (hrun base cap hcap rfl) (.d ?_);rw [hcl,hemp];simp only [List.take_zero];refine .iU (fun hf=>?_);cases h with
        | some h=>simp at hf
        | none=>
          simp only at hf;simp only [dK] at hemp
          have:cap=els.length∧(sz=0→base=none):=by
           cases hr with
           | iU hf'=>exact ⟨by simp [(hf' hf).1],(hf' hf).2⟩
           | aC _ _ hf' _ _ _ _=>exact ⟨(hf' hf).1,fun e=>by have:=(hf' hf).2;omega⟩
          refine ⟨by omega,fun e=>?_⟩;rw [this.2 e];split<;>rfl
       ·cases hr with
        | iU hf=>simp only [dK,List.length_nil] at hemp b3;omega
        | aC hκ hb hf hcp hs hz' hr'=>
          rename_i b off cap c ty fz
          have hzz:sz=z:=by
           simp only [Bool.or_eq_true] at hg;rcases hg with hg | hg
           ·exact cB hg
           ·have:els=[]:=by simpa using hg
            subst this;simp only [dK,List.length_nil] at hemp b3;omega
          subst hzz;have hne:cap≠bO l:=by omega
          refine Out.pure F (hrun _ cap hcp rfl) (.d ?_);rw [if_neg hne];simp only [Option.map_some,gW];have hlen:(sJ els l h).length=dK els.length h-bO l:=by rw [hcl];simp;omega
          have hel:EL κ w.heap c off sz els:=⟨hz',by have:=Nat.mul_le_mul_right sz hcp;omega,hr'⟩;rcases hel.part (bO l) (dK els.length h-bO l) with hp | hp
          ·rw [←hcl] at hp;rw [←hlen];refine .aC hκ hb (fun hf'=>?_) (by omega) ?_ hp.1 hp.2.2
           ·cases h with
            | some h=>simp at hf'
            | none=>simp only at hf';have:=hf hf';simp only [dK] at hlen;omega
           ·have:(bO l+(cap-bO l))*sz=cap*sz:=by congr 1;omega
            rw [Nat.add_mul] at this;omega
          ·rw [←hcl] at hp;rw [hp] at hlen;simp at hlen;omega
  ·
   rename_i e i sz hu
   have fin:∀els,((∃ty,s.O i=some (.arr ty sz els))∨s.O i=some (.jL sz els))→(Env.of P).size e=some sz→(∀b∈wE els.length l h,b=true)→
    Out P κ φ w s a (.sub i sz (bO l) (dK els.length h-bO l)) [] (Instr.sliceAt t v xM hiv none):=by
    intro els hO hz hcc;have hso:=kr hO (F.objs i) r;cases r with
    | own hφ hb hcap hlc hlen=>
      rename_i b len cap c ty fz;have hl':=hlen els.length (by rcases hO with ⟨_,e⟩ | e<;>rw [e]<;>rfl)
      subst hl';obtain ⟨b1,b2,b3⟩:=iJ (P:=P) (isSlice:=true) vl vh hcc hlc w
      have hrun:(Instr.sliceAt t (.slice (some ⟨b,0,none⟩) els.length cap) xM hiv none).run P w = .ok (.slice (if cap=bO l then (some ⟨b,0,none⟩) else some ⟨b,bO l*sz,none⟩) (dK els.length h-bO l) (cap-bO l)) w:=by
       simp only [Instr.sliceAt,Instr.slice,Sem.run_bind,aL hu,Result.andThen_ok,b1,aY hz,Sem.run_pure,Option.map_some,gW,Nat.zero_add]
      refine Out.pure F hrun ?_;by_cases hne:cap=bO l
      ·rw [if_pos hne,show dK els.length h-bO l=0 by omega,show cap-bO l=0 by omega];exact .oH (by rw [hφ];simp)
      ·rw [if_neg hne];exact .sub hφ hb (by rw [show bO l+(cap-bO l)=cap by omega];exact hcap) (by omega)
    | gL hφ=>
      rename_i base
      have he:els=[]:=by
       obtain ⟨base',cap',e1,_⟩:=hso;injection e1 with e1 e2 e3;exact List.eq_nil_of_length_eq_zero e2.symm
      subst he;obtain ⟨b1,b2,b3⟩:=iJ (P:=P) (isSlice:=true) (cap:=0) vl vh hcc (Nat.le_refl _) w;simp only [List.length_nil] at b1 b2 b3
      have hrun:(Instr.sliceAt t (.slice base 0 0) xM hiv none).run P w = .ok (.slice base 0 0) w:=by
       simp only [Instr.sliceAt,Instr.slice,Sem.run_bind,aL hu,Result.andThen_ok,b1,aY hz,Sem.run_pure];rw [show dK 0 h=0 by omega,show bO l=0 by omega];simp
      refine Out.pure F hrun ?_;simp only [List.length_nil];rw [show dK 0 h-bO l=0 by omega];exact .oH (by rw [hφ];simp)
   cases hO:s.O i with
   | none=>rw [hO] at hx;simp at hx
   | some p=>
     rw [hO] at hx;cases hz:(Env.of P).size e with
     | none=>rw [hz] at hx;cases p<;>simp at hx
     | some z=>
       rw [hz] at hx;cases p<;>(try simp only at hx)<;>try (simp at hx;done)
       all_goals
        rename_i sz' els;cases hb:(Nat.beq sz' sz&&Nat.beq sz z) with
        | false=>rw [hb] at hx;simp at hx
        | true=>
          rw [hb] at hx;simp only [cond_true,Option.some.injEq] at hx;subst hx;simp only [Bool.and_eq_true] at hb
          have:=cB hb.1;subst this
          have:=cB hb.2;subst this
          exact fin els (by simp [hO]) hz hc
  ·
   rename_i e i sz off len hu;cases hz:(Env.of P).size e with
   | none=>rw [hz] at hx;simp at hx
   | some z=>
     rw [hz] at hx;simp only at hx;cases hb:Nat.beq sz z with
     | false=>rw [hb] at hx;simp at hx
     | true=>
       have:=cB hb;subst this
       rw [hb] at hx;simp only [cond_true,Option.some.injEq] at hx;subst hx;cases r with
       | sub hφ hb hcap hlc=>
         rename_i cap b c ty fz;obtain ⟨b1,b2,b3⟩:=iJ (P:=P) (isSlice:=true) vl vh hc hlc w
         have hrun:(Instr.sliceAt t (.slice (some ⟨b,off*sz,none⟩) len cap) xM hiv none).run P w = .ok (.slice (if cap=bO l then (some ⟨b,off*sz,none⟩) else some ⟨b,off*sz+bO l*sz,none⟩) (dK len h-bO l) (cap-bO l)) w:=by
          simp only [Instr.sliceAt,Instr.slice,Sem.run_bind,aL hu,Result.andThen_ok,b1,aY hz,Sem.run_pure,Option.map_some,gW]
         refine Out.pure F hrun ?_;by_cases hne:cap=bO l
         ·rw [if_pos hne,show dK len h-bO l=0 by omega,show cap-bO l=0 by omega];exact .oH (by rw [hφ];simp)
         ·rw [if_neg hne,←Nat.add_mul];exact .sub hφ hb (by rw [show off+bO l+(cap-bO l)=off+cap by omega];exact hcap) (by omega)
       | oH hφ=>
         rename_i base;obtain ⟨b1,b2,b3⟩:=iJ (P:=P) (isSlice:=true) (cap:=0) vl vh hc (Nat.le_refl _) w
         have hrun:(Instr.sliceAt t (.slice base 0 0) xM hiv none).run P w = .ok (.slice base 0 0) w:=by
          simp only [Instr.sliceAt,Instr.slice,Sem.run_bind,aL hu,Result.andThen_ok,b1,aY hz,Sem.run_pure];rw [show dK 0 h=0 by omega,show bO l=0 by omega];simp
         refine Out.pure F hrun ?_;rw [show dK 0 h-bO l=0 by omega];exact .oH hφ
  ·
   rename_i n e i off hu;cases hO:s.O i with
   | none=>rw [hO] at hx;simp at hx
   | some p=>
     rw [hO] at hx;cases hz:(Env.of P).size e with
     | none=>rw [hz] at hx;cases p<;>simp at hx
     | some z=>
       rw [hz] at hx;cases p<;>(try simp only at hx)<;>try (simp at hx;done)
       rename_i sz els;cases hb:(Nat.beq sz z&&Nat.beq off 0) with
       | false=>rw [hb] at hx;simp at hx
       | true=>
         rw [hb] at hx;simp only [cond_true,Option.some.injEq] at hx;subst hx;simp only [Bool.and_eq_true] at hb
         have:=cB hb.1;subst this
         have:=cB hb.2;subst this
         have hn:els.length=n:=by simpa using hc (decide (els.length=n)) (by simp)
         cases r with
         | ptr hφ=>
           rename_i b;obtain ⟨b1,b2,b3⟩:=iJ (P:=P) (isSlice:=false) (cap:=n) vl vh (fun b hb=>hc b (by simp [hb])) (Nat.le_refl _) w;have ho:=F.objs i;rw [hO] at ho;rcases ho with ⟨h1,h2⟩ | ⟨b',c,fz,h1,h2,h3,h4,h5⟩
           ·rw [h1] at hφ;cases hφ
           ·have hφ':=hφ;rw [h1] at hφ';injection hφ' with hφ';subst hφ'
            have hrun:(Instr.sliceAt t (.pointer (some ⟨b',0,none⟩)) xM hiv none).run P w = .ok (.slice (some (if n=bO l then ⟨b',0,none⟩ else ⟨b',bO l*sz,none⟩)) (dK n h-bO l) (n-bO l)) w:=by
             simp only [Instr.sliceAt,Sem.run_bind,aL hu,Result.andThen_ok,Instr.sureAddr,Sem.run_pure,b1,aY hz,gW,Nat.zero_add]
            refine Out.pure F hrun ?_;by_cases hne:n=bO l
            ·rw [if_pos hne,show dK n h-bO l=0 by omega,show n-bO l=0 by omega];exact .oH (by rw [hφ];simp)
            ·rw [if_neg hne];exact .sub hφ h3 (by rw [show bO l+(n-bO l)=n by omega,←hn];have:=h5.2.1;omega) (by omega)
  ·simp at hx
 ·
  rename_i h k m hl hh;have vl:=jO hl YM;have vh:=jO hh YN;split at hx
  ·rename_i e sz els full hu;cases hz:(Env.of P).size e with
   | none=>rw [hz] at hx;simp at hx
   | some z=>
     rw [hz] at hx;simp only at hx;cases hg:((Nat.beq sz z||els.isEmpty)&&(Nat.ble 1 sz||full)) with
     | false=>rw [hg] at hx;simp at hx
     | true=>
       rw [hg] at hx;simp only [cond_true,Option.some.injEq] at hx;subst hx;simp only [Bool.and_eq_true] at hg;obtain ⟨hg,hfull⟩:=hg
       have hfull:1≤sz∨full=true:=by
        simp only [Bool.or_eq_true] at hfull;rcases hfull with h | h
        ·exact .inl (Nat.le_of_ble_eq_true h)
        ·exact .inr h
       have h1:0≤h∧h≤m:=by simpa using hc (decide (0≤h∧h≤m)) (by simp)
       have h2:m≤(els.length:Int):=by simpa using hc (decide (m≤(els.length:Int))) (by simp)
       rcases vl with ⟨_,rfl⟩ | ⟨_,_,e1,_⟩
       ·rcases vh with ⟨e1,_⟩ | ⟨k',m',e1,rfl⟩
        ·cases e1
        ·injection e1 with e1;subst e1;cases YO with
         | some rm=>
         cases rm with
         | d hrm=>
         cases hrm;cases r with
         | d hr=>
         obtain ⟨base,cap,rfl,hcap,hrest⟩:=hr.J9;clear hrest
         have hrun:(Instr.sliceAt t (.slice base els.length cap) none (some (.int k' h)) (some (.int k m))).run P w = .ok (.slice (if m.toNat=0 then base else base.map (·.add (0*z))) (h.toNat-0) (m.toNat-0)) w:=by
          simp only [Instr.sliceAt,Instr.slice,Sem.run_bind,aL hu,Result.andThen_ok,Instr.sliceBounds,fU (P:=P) (k:=k) (show 0≤m∧m≤(cap:Int) by omega),
           fU (P:=P) (k:=k') (show 0≤h∧h≤((m.toNat:Nat):Int) by omega),Sem.run_pure,aY hz]
         have hbase:(if m.toNat=0 then base else base.map (·.add (0*z)))=base:=by
          split
          ·rfl
          ·cases base<;>simp [Addr.add]
         rw [hbase] at hrun;refine Out.pure F hrun (.d ?_);have htl:(els.take h.toNat).length=h.toNat:=by simp;omega
         simp only [Nat.sub_zero];by_cases h0:h.toNat=0
         ·rw [h0];simp only [List.take_zero];refine .iU (fun hf=>⟨by have:h=m:=(by simpa using hf);omega,fun e=>?_⟩);rcases hfull with hfull | hfull
          ·omega
          ·cases hr with
           | iU hf'=>exact (hf' hfull).2 e
           | aC _ _ hf' _ _ _ _=>have:=(hf' hfull).2;omega
         ·cases hr with
          | iU hf=>simp at h2;omega
          | aC hκ hb hf hcp hs hz' hr'=>
            rename_i b off c ty fz;have hel:EL κ w.heap c off sz els:=⟨hz',by have:=Nat.mul_le_mul_right sz hcp;omega,hr'⟩;rcases hel.part 0 h.toNat with hp | hp
            ·simp only [List.drop_zero,Nat.zero_mul,Nat.add_zero] at hp
             have:=DR.aC (κ:=κ) (h:=w.heap) (full:=decide (h=m)) (cap:=m.toNat) hκ hb (fun hf'=>⟨by have:h=m:=(by simpa using hf');omega,by
              rcases hfull with hfull | hfull
              ·exact hfull
              ·exact (hf hfull).2⟩) (by omega)
              (by have:=Nat.mul_le_mul_right sz (show m.toNat≤cap by omega);omega) hp.1 hp.2.2
             rw [htl] at this;exact this
            ·simp only [List.drop_zero] at hp;rw [hp] at htl;simp at htl;omega
       ·cases e1
  ·simp at hx
 ·simp at hx
theorem byte_of {x:DV} (h:x.isByte=true):∃n,x = .int .u8 n:=by
 cases x<;>try (simp [DV.isByte] at h;done)
 rename_i k n;cases k<;>first | exact ⟨n,rfl⟩ | (simp [DV.isByte] at h)
theorem rP (f:Value→ByteArray→Sem (ForInStep ByteArray)) (hf:∀n s,f (.int .u8 n) s=pure (ForInStep.yield (s.push (UInt8.ofNat n.toNat)))) :
 ∀(l:List Value) (ds:List DV) (acc:ByteArray) (w:World),l.length=ds.length→(∀(i:Nat) (x:DV) (v:Value),ds[i]? = some x→l[i]? = some v→∃n,x = .int .u8 n∧v = .int .u8 n)→
 (forIn l acc f:Sem ByteArray).run P w = .ok ⟨acc.data++(ds.map DV.byte).toArray⟩ w
 | [],ds,acc,w,hl,_=>by
   have:ds=[]:=List.eq_nil_of_length_eq_zero (by simpa using hl.symm)
   subst this;simp
 | v::l,ds,acc,w,hl,h=>by
   cases ds with
   | nil=>simp at hl
   | cons x ds=>
     obtain ⟨n,rfl,rfl⟩:=h 0 x v rfl rfl;have ih:=rP f hf l ds (acc.push (UInt8.ofNat n.toNat)) w (by simpa using hl) (fun i x v hx hv=>h (i+1) x v (by simpa using hx) (by simpa using hv));simp only [List.forIn_cons,hf,Sem.run_bind,Sem.run_pure,Result.andThen_ok];refine ih.trans ?_;congr 2;simp [DV.byte,ByteArray.push]
theorem Ot {κ:bE} {φ:bP} {w:World} {s:cu} {a:Act} (F:aA κ φ w s a) {sl src dst:Nat} {x:RV} {v:Value} {res:dz}
 (hx:uH (Env.of P) s.O sl src dst x=some res) (hc:∀b∈res.conds,b=true) (r:bJ κ φ s.O w.heap x v):Out P κ φ w s a res.val res.upd (convert src dst v):=by
 unfold uH at hx;split at hx
 ·rename_i ds k k0 n hs hd;injection hx with hx;subst hx;cases r with
  | d hr=>
    cases hr;refine Out.pure F (v:=.int k (k.wrap n)) ?_ (.d (.int _ _));simp only [convert,Sem.run_bind,aL hs,aL hd,Result.andThen_ok,Conv.intToInt,Sem.run_pure]
 ·rename_i ds str hs hd;injection hx with hx;subst hx;cases r with
  | d hr=>
    cases hr;refine Out.pure F (v:=.string ⟨str.toArray⟩) ?_ (.d (.str _));simp only [convert,Sem.run_bind,aL hs,aL hd,Result.andThen_ok,Sem.run_pure]
 ·rename_i ds e str hs hd;cases I5:qJ ((Env.of P).und e) with
  | false=>rw [I5] at hx;simp at hx
  | true=>
    rw [I5] at hx;simp only [cond_true] at hx
    have hue:(Env.of P).und e=some (.int .u8):=by
     unfold qJ at I5;split at I5
     ·assumption
     ·simp at I5
    split at hx
    ·rename_i hO hz;injection hx with hx;subst hx;cases r with
     | d hr=>
     cases hr;have hsz:(⟨str.toArray⟩:ByteArray).size=str.length:=by simp [ByteArray.size]
     generalize hcap:str.length+w.tape w.drawn (.appendCap str.length 0 e) % (2 ^ 63-str.length)=cap;have hcl:str.length≤cap:=by omega
     have hC:(str.toArray.map (fun b=>Value.int .u8 b.toNat)++Array.replicate (cap-str.length) (Value.int .u8 0)).size=cap:=by simp;omega
     generalize Wd:str.toArray.map (fun b=>Value.int .u8 b.toNat)++Array.replicate (cap-str.length) (Value.int .u8 0)=C at hC
     have hrun:(convert src dst (.string ⟨str.toArray⟩)).run P w = .ok (.slice (some ⟨w.heap.size,0,none⟩) str.length cap) { w with drawn:=w.drawn+1,heap:=w.heap.push (.cells C e (cap,cap+1)) }:=by
      simp only [convert,Sem.run_bind,aL hs,aL hd,aL hue,Result.andThen_ok,Conv.stringToBytes,hsz,run_choose,Question.forced,Question.cut,Bool.false_eq_true,if_false,hcap,Wd,
       newRow,run_newObj,Sem.run_pure,markStringish,run_shape,World.shape?,aW,hC,run_freeze,World.freeze]
      rw [if_neg (by omega)];congr 2;apply Array.ext_getElem?;intro j;rw [Array.getElem?_modify];by_cases e:w.heap.size=j
      ·subst e;simp
      ·rw [if_neg e];rcases Nat.lt_or_ge j w.heap.size with h | h
       ·rw [dM h,dM h]
       ·rw [Array.getElem?_eq_none (by simp;omega),Array.getElem?_eq_none (by simp;omega)]
     obtain ⟨q1,q2,q3⟩:=F.alloc (i:=sl) (p:=.arr e 1 (jq str)) (o:=.cells C e (cap,cap+1)) (w':={ w with drawn:=w.drawn+1,heap:=w.heap.push (.cells C e (cap,cap+1)) }) rfl hO
      (fun M=>.inr ⟨_,_,_,aS _ _ _,cZ _ _ _,aW _ _,fun o ho h=>by rw [hC] at ho;omega,Kk str,by rw [hC];simp [jq];exact hcl,fun i x j y v hx hy hv=>by
        obtain ⟨b,hb,rfl⟩:=GZ str i x hx;have hlt:=(List.getElem?_eq_some_iff.1 hb).1;cases j with
        | zero=>
          simp [DV.cells] at hy;subst hy;rw [←Wd] at hv;rw [Array.getElem?_append_left (by simp;omega)] at hv;simp [hb] at hv;subst hv;exact .int _ _
        | succ j=>simp [DV.cells] at hy⟩)
     refine ⟨_,_,_,iG φ sl (.at w.heap.size),hrun,q1,?_,q3,q2.kp⟩
     exact .own (aS _ _ _) (aW _ _) (by rw [hC];omega) hcl (fun n hn=>by
      have:av.dB (bF s.O sl (some (.arr e 1 (jq str))) sl)=some n:=hn
      rw [bN] at this;simp [av.dB,jq] at this;omega)
    ·simp at hx
 ·rename_i x _ _ _ e hs hd hne;cases I5:qJ ((Env.of P).und e) with
  | false=>rw [I5] at hx;simp at hx
  | true=>
    rw [I5] at hx;simp only [cond_true] at hx
    have hue:(Env.of P).und e=some (.int .u8):=by
     unfold qJ at I5;split at I5
     ·assumption
     ·simp at I5
    cases hel:lu s.O x with
    | none=>rw [hel] at hx;simp at hx
    | some p3=>
      obtain ⟨sz,els,cc⟩:=p3;rw [hel] at hx;simp only at hx;cases hg:(Nat.beq sz 1||els.isEmpty) with
      | false=>rw [hg] at hx;simp at hx
      | true=>
        rw [hg] at hx;simp only [cond_true,Option.some.injEq] at hx;subst hx;have hby:els.all DV.isByte=true:=hc _ (by simp);obtain ⟨base,cap,rfl,hcap,hsl⟩:=Dp F hel (fun b hb=>hc b (by simp [hb])) r;refine Out.pure F (v:=.string ⟨(els.map DV.byte).toArray⟩) ?_ (.d (.str _))
        have Ho:(convert src dst (.slice base els.length cap)).run P w=(Conv.bytesToString (.slice base els.length cap)).run P w:=by
         cases base<;>simp only [convert,Sem.run_bind,aL hs,aL hd,aL hue,Result.andThen_ok]
        rw [Ho];rcases hsl with rfl | ⟨b,off,c,ty,fz,rfl,hb,Y0,hs2⟩
        ·cases base with
         | none=>simp only [Conv.bytesToString,Sem.run_pure];rfl
         | some b=>simp [Conv.bytesToString,loadCells,loadCellsFrom];rfl
        ·by_cases he:els=[]
         ·subst he;simp [Conv.bytesToString,loadCells,loadCellsFrom];rfl
         ·have hsz:sz=1:=by
           simp only [Bool.or_eq_true] at hg;rcases hg with hg | hg
           ·exact cB hg
           ·exact absurd (by simpa using hg) he
          subst hsz;obtain ⟨e1,e2,e3⟩:=Y0;simp only [Conv.bytesToString,Sem.run_bind,dU hb (show off+els.length≤c.size by omega),Result.andThen_ok];rw [←Array.forIn_toList];have hll:(c.extract off (off+els.length)).toList.length=els.length:=by simp;omega
          rw [rP (P:=P) _ (fun _ _=>rfl) (c.extract off (off+els.length)).toList els ByteArray.empty w hll (fun i x v hx hv=>by
           have hlt:=(List.getElem?_eq_some_iff.1 hx).1;obtain ⟨n,rfl⟩:=byte_of (List.all_eq_true.1 hby x (List.mem_iff_getElem?.2 ⟨i,hx⟩));simp only [Array.getElem?_toList,Array.getElem?_extract] at hv;split at hv
           ·have:=e3 i _ 0 (.int .u8 n) v hx rfl (by simpa using hv)
            cases this;exact ⟨n,rfl,rfl⟩
           ·simp at hv)]
          simp only [Result.andThen_ok,Sem.run_pure];congr 3;simp
 ·simp at hx
theorem wrap_small {n:Int} (h0:0≤n) (h:n≤2 ^ 62):IntKind.i64.wrap n=n:=by
 have:(2:Int) ^ 62=4611686018427387904:=by decide
 exact IntWalk.i64_in _ (by omega)
theorem Br {κ:bE} {φ:bP} {w:World} {s:cu} {a:Act} (F:aA κ φ w s a) {sl t:Nat} {x y:RV} {v u:Value} {res:dz}
 (hx:lW (Env.of P) s.O sl t x y=some res) (hc:∀b∈res.conds,b=true) (r:bJ κ φ s.O w.heap x v) (r2:bJ κ φ s.O w.heap y u) :
 Out P κ φ w s a res.val res.upd (Instr.makeSlice t v u):=by
 unfold lW at hx;split at hx
 ·rename_i e k n k' m hu;split at hx
  ·rename_i z iO q hO hz hby Dk;cases hg:(Nat.ble 1 z&&Nat.ble 1 iO&&Nat.beq q.cells.length z&&gJ q.cells) with
   | false=>rw [hg] at hx;simp at hx
   | true=>
     rw [hg] at hx;simp only [cond_true,Option.some.injEq] at hx;subst hx;simp only [Bool.and_eq_true] at hg;obtain ⟨⟨⟨g1,g2⟩,g3⟩,g4⟩:=hg;have g1:=Nat.le_of_ble_eq_true g1;have g2:=Nat.le_of_ble_eq_true g2;have g3:=cB g3;have g4:=gX g4;have c1:0≤n∧n≤m:=by simpa using hc (decide (0≤n∧n≤m)) (by simp)
     have c2:(iO:Int)*m≤2 ^ 38:=of_decide_eq_true (hc (decide ((iO:Int)*m≤2 ^ 38)) (by simp));have p38:(2:Int) ^ 38=274877906944:=by decide
     have p62:(2:Int) ^ 62=4611686018427387904:=by decide
     have p48:(2:Int) ^ 48=281474976710656:=by decide
     have hm:m≤(iO:Int)*m:=by
      have:=Int.mul_le_mul_of_nonneg_right (show (1:Int)≤(iO:Int) by omega) (show 0≤m by omega)
      simpa using this
     cases r with
     | d hr=>
     cases r2 with
     | d hr2=>
     cases hr;cases hr2;obtain ⟨ti,hti,DI⟩:=gY hby w;obtain ⟨zv,hzv,Wh⟩:=fC Dk w;have hzd:DR κ w.heap q zv:=iI Wh;obtain ⟨zc1,zc2⟩:=hzd.cells;have hzs:zv.cells.size=z:=by omega
     have hB:((Array.range (m.toNat*z)).map (zv.cells[· % zv.cells.size]!)).size=m.toNat*z:=by simp
     have hrun:∃B:Array Value,B.size=m.toNat*z∧(∀k,k < m.toNat*z→B[k]? = zv.cells[k % z]?)∧(Instr.makeSlice t (.int k n) (.int k' m)).run P w = .ok (.slice (some ⟨w.heap.size,0,none⟩) n.toNat m.toNat) { w with heap:=w.heap.push (.cells B e (0,0)) }:=by
      have w1:IntKind.i64.wrap n=n:=wrap_small (by omega) (by omega);have w2:IntKind.i64.wrap m=m:=wrap_small (by omega) (by omega);have hlt:¬((iO:Int)*m > 2 ^ 48):=by omega
      have hcond:((decide (m < 0)||decide ((iO:Int)*m > 2 ^ 48))||decide (n < 0)||decide (n > m))=false:=by simp;omega
      by_cases h0:m.toNat*z=0
      ·refine ⟨(Array.range (m.toNat*z)).map ((#[]:Array Value)[· % (#[]:Array Value).size]!),by simp,fun k hk=>by omega,?_⟩;simp only [Instr.makeSlice,Sem.run_bind,aL hu,Result.andThen_ok,asInt,asIntOf,Sem.run_pure,hti,DI,w1,w2];rw [if_neg (by simpa using hcond)];simp only [Sem.run_bind,Result.andThen_ok,run_askRoom,aY hz];rw [if_pos h0];simp [newRow]
      ·refine ⟨(Array.range (m.toNat*z)).map (zv.cells[· % zv.cells.size]!),hB,fun k hk=>?_,?_⟩
       ·have hlt:k % z < zv.cells.size:=by rw [hzs];exact Nat.mod_lt _ (by omega)
        have e1:((Array.range (m.toNat*z)).map (zv.cells[· % zv.cells.size]!))[k]? = some (zv.cells[k % z]!):=by simp [hk,hzs]
        rw [e1,getElem!_pos zv.cells (k % z) hlt,getElem?_pos zv.cells (k % z) hlt]
       ·simp only [Instr.makeSlice,Sem.run_bind,aL hu,Result.andThen_ok,asInt,asIntOf,Sem.run_pure,hti,DI,w1,w2];rw [if_neg (by simpa using hcond)];simp only [Sem.run_bind,Result.andThen_ok,run_askRoom,aY hz];rw [if_neg h0];simp [newRow,hzv]
     obtain ⟨B,hB1,hB2,hrun⟩:=hrun;have hnm:n.toNat≤m.toNat:=by omega
     have hle:=Nat.mul_le_mul_right z hnm
     obtain ⟨q1,q2,q3⟩:=F.alloc (i:=sl) (p:=.arr e z (List.replicate n.toNat q)) (o:=.cells B e (0,0)) (w':={ w with heap:=w.heap.push (.cells B e (0,0)) }) rfl hO
      (fun M=>.inr ⟨_,_,_,aS _ _ _,cZ _ _ _,aW _ _,rM _,fun x hx=>by
        have:=List.eq_of_mem_replicate hx;subst this;exact ⟨g3,g4⟩,by rw [hB1];simpa using hle,fun i x j y v hx hy hv=>by
        have hi:=(List.getElem?_eq_some_iff.1 hx).1
        have:=List.eq_of_mem_replicate (List.mem_iff_getElem?.2 ⟨i,hx⟩);subst this
        have hj:=(List.getElem?_eq_some_iff.1 hy).1;simp only [List.length_replicate] at hi;have h3:=Nat.mul_le_mul_right z (show i+1≤m.toNat by omega);rw [Nat.add_mul] at h3;simp only [Nat.zero_add] at hv;rw [hB2 _ (by omega)] at hv
        have:(i*z+j) % z=j:=by rw [Nat.mul_comm,Nat.mul_add_mod];exact Nat.mod_eq_of_lt (by omega)
        rw [this] at hv;exact (zc2 j y v hy hv).mono M.dN⟩)
     refine ⟨_,_,_,iG φ sl (.at w.heap.size),hrun,q1,?_,q3,q2.kp⟩
     exact .own (aS _ _ _) (aW _ _) (by rw [hB1];exact Nat.le_refl _) hnm (fun l hl=>by
      have:av.dB (bF s.O sl (some (.arr e z (List.replicate n.toNat q))) sl)=some l:=hl
      rw [bN] at this;simp [av.dB] at this;omega)
  ·simp at hx
 ·simp at hx
def eG {α β:Type} (f:α→Option β):List α→Option (List β)
 | []=>some []
 | x::r=>match f x,eG f r with
   | some y,some l=>some (y::l)
   | _,_=>none
theorem dW {α β:Type} (f:α→Option β):∀(l:List α) (r:List β),eG f l=some r→r.length=l.length∧∀(i:Nat) (x:α) (y:β),l[i]? = some x→r[i]? = some y→f x=some y
 | [],r,h=>by simp [eG] at h;subst h;simp
 | x::l,r,h=>by
   simp only [eG] at h;cases h1:f x with
   | none=>rw [h1] at h;simp at h
   | some y=>
     cases h2:eG f l with
     | none=>rw [h1,h2] at h;simp at h
     | some q=>
       rw [h1,h2] at h;simp at h;subst h;obtain ⟨g1,g2⟩:=dW f l q h2;refine ⟨by simp [g1],fun i x' y' hx hy=>?_⟩;cases i with
       | zero=>simp at hx hy;subst hx;subst hy;exact h1
       | succ i=>exact g2 i x' y' (by simpa using hx) (by simpa using hy)
def RV.ren (ρ:Nat→Option Nat):Nat→RV→Option RV
 | 0,_=>none
 | n+1,x=>
   match x with
   | .bot=>some .bot
   | .und=>some .und
   | .d x=>some (.d x)
   | .ptr i off=>match ρ i with | some j=>some (.ptr j off) | none=>none
   | .gU i sz idx off=>match ρ i with | some j=>some (.gU j sz idx off) | none=>none
   | .bB x off=>some (.bB x off)
   | .own i sz=>match ρ i with | some j=>some (.own j sz) | none=>none
   | .sub i sz off len=>match ρ i with | some j=>some (.sub j sz off len) | none=>none
   | .sl i sz o len cap=>match ρ i with | some j=>some (.sl j sz o len cap) | none=>none
   | .map i=>match ρ i with | some j=>some (.map j) | none=>none
   | .gI fn fs cs=>match eG (RV.ren ρ n) fs,eG (RV.ren ρ n) cs with
     | some fs',some cs'=>some (.gI fn fs' cs')
     | _,_=>none
   | .agg cs=>match eG (RV.ren ρ n) cs with | some l=>some (.agg l) | none=>none
   | .bn cs=>match eG (RV.ren ρ n) cs with | some l=>some (.bn l) | none=>none
def av.ren (ρ:Nat→Option Nat):av→Option av
 | .box ty cs=>match eG (RV.ren ρ 6) cs with | some l=>some (.box ty l) | none=>none
 | .bW ty cs=>match eG (RV.ren ρ 6) cs with | some l=>some (.bW ty l) | none=>none
 | .NT m=>match ρ m with | some j=>some (.NT j) | none=>none
 | p=>some p
theorem bJ.ren {κ κ' : bE} {φ φ' : bP} {O O' : Tab} {h:Heap} {ρ:Nat→Option Nat} (iV:∀b,κ b = .dN→κ' b = .dN)
 (hφ:∀i j,ρ i=some j→φ i≠.un→φ' j=φ i) (hlen:∀i j n,ρ i=some j→φ i≠.un→av.dB (O' j)=some n→av.dB (O i)=some n) :
 ∀(n:Nat) (x y:RV) (v:Value),RV.ren ρ n x=some y→bJ κ φ O h x v→bJ κ' φ' O' h y v:=by
 intro n;induction n with
 | zero=>intro x y v e;simp [RV.ren] at e
 | succ n ih=>
   intro x y v e r
   have aC:∀(cs l:List RV) (vs:Array Value),eG (RV.ren ρ n) cs=some l→vs.size=cs.length→(∀(i:Nat) (x:RV) (v:Value),cs[i]? = some x→vs[i]? = some v→bJ κ φ O h x v)→
    vs.size=l.length∧∀(i:Nat) (x:RV) (v:Value),l[i]? = some x→vs[i]? = some v→bJ κ' φ' O' h x v:=by
    intro cs l vs hm hs hr;obtain ⟨m1,m2⟩:=dW _ cs l hm;refine ⟨by omega,fun i x v hx hv=>?_⟩;have hlt:=(List.getElem?_eq_some_iff.1 hx).1;have hlt2:i < cs.length:=by omega
    have hc:cs[i]? = some cs[i]:=by simp [hlt2]
    exact ih _ x v (m2 i _ x hc hx) (hr i _ v hc hv)
   cases r with
   | bot v=>simp [RV.ren] at e;subst e;exact .bot v
   | und=>simp [RV.ren] at e;subst e;exact .und
   | d hr=>simp [RV.ren] at e;subst e;exact .d (hr.mono (fun b hb=>⟨iV b hb,rfl⟩))
   | ptr h1=>
     rename_i i off b;simp only [RV.ren] at e;cases hq:ρ i with
     | none=>rw [hq] at e;simp at e
     | some j=>rw [hq] at e;simp at e;subst e;exact .ptr (by rw [hφ i j hq (by rw [h1];simp)];exact h1)
   | gU h1=>
     rename_i i sz idx off b;simp only [RV.ren] at e;cases hq:ρ i with
     | none=>rw [hq] at e;simp at e
     | some j=>rw [hq] at e;simp at e;subst e;exact .gU (by rw [hφ i j hq (by rw [h1];simp)];exact h1)
   | bB h1 h2 h3 h4 h5=>simp [RV.ren] at e;subst e;exact .bB (iV _ h1) h2 h3 h4 (fun j y v hy hv=>(h5 j y v hy hv).mono (fun b hb=>⟨iV b hb,rfl⟩))
   | own h1 h2 h3 h4 h5=>
     rename_i i sz b len cap c ty fz;simp only [RV.ren] at e;cases hq:ρ i with
     | none=>rw [hq] at e;simp at e
     | some j=>rw [hq] at e;simp at e;subst e;exact .own (by rw [hφ i j hq (by rw [h1];simp)];exact h1) h2 h3 h4 (fun n hn=>h5 n (hlen i j n hq (by rw [h1];simp) hn))
   | gL h1=>
     rename_i i sz base;simp only [RV.ren] at e;cases hq:ρ i with
     | none=>rw [hq] at e;simp at e
     | some j=>rw [hq] at e;simp at e;subst e;exact .gL (by rw [hφ i j hq (by rw [h1];simp)];exact h1)
   | sub h1 h2 h3 h4=>
     rename_i i sz off len cap b c ty fz;simp only [RV.ren] at e;cases hq:ρ i with
     | none=>rw [hq] at e;simp at e
     | some j=>rw [hq] at e;simp at e;subst e;exact .sub (by rw [hφ i j hq (by rw [h1];simp)];exact h1) h2 h3 h4
   | oH h1=>
     rename_i i sz off base;simp only [RV.ren] at e;cases hq:ρ i with
     | none=>rw [hq] at e;simp at e
     | some j=>rw [hq] at e;simp at e;subst e;exact .oH (by rw [hφ i j hq h1];exact h1)
   | sl h1 h2 h3 h4 h5 h6 h7=>
     rename_i i sz o len cap b o' eY c ty fz;simp only [RV.ren] at e;cases hq:ρ i with
     | none=>rw [hq] at e;simp at e
     | some j=>rw [hq] at e;simp at e;subst e;exact .sl (by rw [hφ i j hq (by rw [h1];simp)];exact h1) h2 h3 h4 h5 h6 (fun ec n hn=>h7 ec n (hlen i j n hq (by rw [h1];simp) hn))
   | map h1=>
     rename_i i b;simp only [RV.ren] at e;cases hq:ρ i with
     | none=>rw [hq] at e;simp at e
     | some j=>rw [hq] at e;simp at e;subst e;exact .map (by rw [hφ i j hq (by rw [h1];simp)];exact h1)
   | gI h1 h2 h3 h4=>
     rename_i fn fs cs f c;simp only [RV.ren] at e;cases m1:eG (RV.ren ρ n) fs with
     | none=>rw [m1] at e;simp at e
     | some fs'=>
       cases m2:eG (RV.ren ρ n) cs with
       | none=>rw [m1,m2] at e;simp at e
       | some cs'=>
         rw [m1,m2] at e;simp at e;subst e;obtain ⟨q1,q2⟩:=aC fs fs' f m1 h1 h3;obtain ⟨q3,q4⟩:=aC cs cs' c m2 h2 h4;exact .gI q1 q3 q2 q4
   | agg h1 h2 h3=>
     rename_i cs vs;simp only [RV.ren] at e;cases m1:eG (RV.ren ρ n) cs with
     | none=>rw [m1] at e;simp at e
     | some l=>
       rw [m1] at e;simp at e;subst e;obtain ⟨q1,q2⟩:=aC cs l vs m1 h1 h3;exact .agg q1 h2 q2
   | bn h1 h3=>
     rename_i cs vs;simp only [RV.ren] at e;cases m1:eG (RV.ren ρ n) cs with
     | none=>rw [m1] at e;simp at e
     | some l=>
       rw [m1] at e;simp at e;subst e;obtain ⟨q1,q2⟩:=aC cs l vs m1 h1 h3;exact .bn q1 q2
theorem OR.ren {κ κ' : bE} {φ φ' : bP} {O O' : Tab} {h:Heap} {ρ:Nat→Option Nat} (iV:∀b,κ b = .dN→κ' b = .dN)
 (hφ:∀i j,ρ i=some j→φ i≠.un→φ' j=φ i) (hlen:∀i j n,ρ i=some j→φ i≠.un→av.dB (O' j)=some n→av.dB (O i)=some n)
 {i j:Nat} (hij:ρ i=some j) (hown:∀b,κ b = .own i→κ' b = .own j) {p q:av} (e:p.ren ρ=some q) (r:OR κ φ O h i (some p)):OR κ' φ' O' h j (some q):=by
 cases p with
 | box ty cs=>
   obtain ⟨b,c,h1,h2,h3,h4,h5,h6⟩:=r;simp only [av.ren] at e;cases m1:eG (RV.ren ρ 6) cs with
   | none=>rw [m1] at e;simp at e
   | some l=>
     rw [m1] at e;simp at e;subst e;obtain ⟨g1,g2⟩:=dW _ cs l m1;refine ⟨b,c,by rw [hφ i j hij (by rw [h1];simp)];exact h1,hown b h2,h3,by omega,h5,fun k x v hx hv=>?_⟩;have hlt:=(List.getElem?_eq_some_iff.1 hx).1;have hlt2:k < cs.length:=by omega
     have hc:cs[k]? = some cs[k]:=by simp [hlt2]
     exact bJ.ren iV hφ hlen 6 _ x v (g2 k _ x hc hx) (h6 k _ v hc hv)
 | gone=>simp [av.ren] at e;subst e;exact trivial
 | arr ty sz els=>
   simp [av.ren] at e;subst e;rcases r with ⟨h1,h2⟩ | ⟨b,c,fz,h1,h2,h3,h4,h5⟩
   ·exact .inl ⟨by rw [hφ i j hij (by rw [h1];simp)];exact h1,h2⟩
   ·exact .inr ⟨b,c,fz,by rw [hφ i j hij (by rw [h1];simp)];exact h1,hown b h2,h3,h4,h5.mono (fun b hb=>⟨iV b hb,rfl⟩)⟩
 | jL sz els=>
   simp [av.ren] at e;subst e;rcases r with ⟨h1,h2⟩ | ⟨b,c,ty,fz,h1,h2,h3,h5⟩
   ·exact .inl ⟨by rw [hφ i j hij (by rw [h1];simp)];exact h1,h2⟩
   ·exact .inr ⟨b,c,ty,fz,by rw [hφ i j hij (by rw [h1];simp)];exact h1,iV b h2,h3,h5.mono (fun b hb=>⟨iV b hb,rfl⟩)⟩
 | bW ty cs=>
   obtain ⟨b,c,fz,h1,h2,h3,h4,h5,h6⟩:=r;simp only [av.ren] at e;cases m1:eG (RV.ren ρ 6) cs with
   | none=>rw [m1] at e;simp at e
   | some l=>
     rw [m1] at e;simp at e;subst e;obtain ⟨g1,g2⟩:=dW _ cs l m1;refine ⟨b,c,fz,by rw [hφ i j hij (by rw [h1];simp)];exact h1,hown b h2,h3,h4,by omega,fun k x v hx hv=>?_⟩;have hlt:=(List.getElem?_eq_some_iff.1 hx).1;have hlt2:k < cs.length:=by omega
     have hc:cs[k]? = some cs[k]:=by simp [hlt2]
     exact ⟨bJ.ren iV hφ hlen 6 _ x v (g2 k _ x hc hx) (h6 k _ v hc hv).1,(h6 k _ v hc hv).2⟩
 | sit s pos rest=>
   simp [av.ren] at e;subst e;obtain ⟨b,h1,h2,h3,h4⟩:=r;exact ⟨b,by rw [hφ i j hij (by rw [h1];simp)];exact h1,hown b h2,h3,h4⟩
 | NT m=>
   simp only [av.ren] at e;cases hm:ρ m with
   | none=>rw [hm] at e;simp at e
   | some m'=>
     rw [hm] at e;simp at e;subst e;obtain ⟨b,mb,c,h1,h2,h3,h4⟩:=r;exact ⟨b,mb,c,by rw [hφ i j hij (by rw [h1];simp)];exact h1,hown b h2,by rw [hφ m m' hm (by rw [h3];simp)];exact h3,h4⟩
 | VX s=>
   simp [av.ren] at e;subst e;obtain ⟨b,c,ty,h1,h2,h3,h4⟩:=r;refine ⟨b,c,ty,by rw [hφ i j hij (by rw [h1];simp)];exact h1,hown b h2,h3,?_⟩;rcases h4 with h4 | ⟨b2,cap,c2,VI,lo,hi,g1,g2,g3⟩
   ·exact .inl h4
   ·exact .inr ⟨b2,cap,c2,VI,lo,hi,g1,hown b2 g2,g3⟩
 | map es=>
   simp [av.ren] at e;subst e;obtain ⟨b,eB,clock,h1,h2,h3,h4,h5⟩:=r;refine ⟨b,eB,clock,by rw [hφ i j hij (by rw [h1];simp)];exact h1,hown b h2,h3,h4,fun k x m hx hm=>?_⟩;obtain ⟨g1,g2,g3⟩:=h5 k x m hx hm;exact ⟨g1.mono (fun b hb=>⟨iV b hb,rfl⟩),g2.mono (fun b hb=>⟨iV b hb,rfl⟩),g3⟩
def aV (objs:List av):Tab:=fun i=>objs[i]?
def C (P:Program) (f:FuncId) (args:List RV) (objs:List av) (Q:RV→List av→Prop):Prop:=
 ∀(κ:bE) (φ:bP) (w:World) (vs:Array Value),(∀i,OR κ φ (aV objs) w.heap i (aV objs i))→Bc κ w→vs.size=args.length→
  (∀(i:Nat) (x:RV) (v:Value),args[i]? = some x→vs[i]? = some v→bJ κ φ (aV objs) w.heap x v)→
  Calls P f vs w fun e w'=>∃v r bS κ' φ',e = .returned v∧Q r bS∧bJ κ' φ' (aV bS) w'.heap r v∧(∀i,OR κ' φ' (aV bS) w'.heap i (aV bS i))∧
   Bc κ' w'∧objs.length≤bS.length∧Fr κ w κ' w'∧Kp φ (aV objs) φ' (aV bS)
def idx (i:Nat):List Nat→Nat→Option Nat
 | [],_=>none
 | x::r,k=>bif Nat.beq x i then some k else idx i r (k+1)
theorem kE (i:Nat):∀(l:List Nat) (k j:Nat),idx i l k=some j→k≤j∧l[j-k]? = some i
 | [],k,j,h=>by simp [idx] at h
 | x::r,k,j,h=>by
   simp only [idx] at h;cases hb:Nat.beq x i with
   | true=>rw [hb] at h;simp at h;subst h;have:=cB hb;subst this;simp
   | false=>
     rw [hb] at h;simp only [cond_false] at h;obtain ⟨h1,h2⟩:=kE i r (k+1) j h;refine ⟨by omega,?_⟩;rw [show j-k=(j-(k+1))+1 by omega];simpa using h2
theorem jY (i:Nat):∀(l:List Nat) (k:Nat),i∈l→∃j,idx i l k=some j
 | [],k,h=>by simp at h
 | x::r,k,h=>by
   simp only [idx];cases hb:Nat.beq x i with
   | true=>exact ⟨k,rfl⟩
   | false=>
     rcases List.mem_cons.1 h with rfl | h
     ·rw [vK rfl] at hb;cases hb
     ·exact jY i r (k+1) h
def nodupB:List Nat→Bool
 | []=>true
 | x::r=>!(r.any fun y=>Nat.beq y x)&&nodupB r
theorem jw:∀(l:List Nat),nodupB l=true→∀(i j x:Nat),l[i]? = some x→l[j]? = some x→i=j
 | [],_,i,j,x,h,_=>by simp at h
 | y::r,h,i,j,x,hi,hj=>by
   simp only [nodupB,Bool.and_eq_true,Bool.not_eq_true'] at h
   have hne:∀k,r[k]?≠some y:=fun k hk=>by
    have:=List.any_eq_false.1 h.1 y (List.mem_iff_getElem?.2 ⟨k,hk⟩)
    rw [vK rfl] at this;simp at this
   cases i with
   | zero=>
     simp at hi;subst hi;cases j with
     | zero=>rfl
     | succ j=>exact absurd (by simpa using hj) (hne j)
   | succ i=>
     cases j with
     | zero=>simp at hj;subst hj;exact absurd (by simpa using hi) (hne i)
     | succ j=>have:=jw r h.2 i j x (by simpa using hi) (by simpa using hj);omega
def sO:List Nat→List av→List (Nat×av)
 | i::r,p::q=>(i,p)::sO r q
 | _,_=>[]
theorem Kn (qs:List Nat):∀(ps:List av) (O:Tab),ps.length=qs.length→nodupB qs=true→(∀(j i:Nat),qs[j]? = some i→aX O (sO qs ps) i=ps[j]?)∧(∀i,i∉qs→aX O (sO qs ps) i=O i):=by
 induction qs with
 | nil=>intro ps O _ _;exact ⟨by simp,fun i _=>by cases ps<;>rfl⟩
 | cons q qs ih=>
   intro ps O hl hn;cases ps with
   | nil=>simp at hl
   | cons p ps=>
     have hn':=hn;simp only [nodupB,Bool.and_eq_true,Bool.not_eq_true'] at hn';obtain ⟨h1,h2⟩:=ih ps (bF O q (some p)) (by simpa using hl) hn'.2
     have hq:q∉qs:=fun hm=>by
      have:=List.any_eq_false.1 hn'.1 q hm
      rw [vK rfl] at this;simp at this
     have hstep:aX O (sO (q::qs) (p::ps))=aX (bF O q (some p)) (sO qs ps):=rfl;rw [hstep];refine ⟨fun j i hj=>?_,fun i hi=>?_⟩
     ·cases j with
      | zero=>simp at hj;subst hj;rw [h2 q hq,bN];rfl
      | succ j=>exact h1 j i (by simpa using hj)
     ·simp only [List.mem_cons,not_or] at hi;rw [h2 i hi.2,dP _ _ hi.1]
theorem I6 {κ:bE} {φ:bP} {w:World} {s:cu} {a:Act} (F:aA κ φ w s a) {f:FuncId} {ps:List Nat} {args args' : List RV} {objs:List av} {vs:Array Value} {Q:RV→List av→Prop}
 (hnd:nodupB ps=true) (hargs:eG (RV.ren (fun i=>idx i ps 0) 6) args=some args')
 (Wi:eG (fun i=>match s.O i with | some p=>p.ren (fun i=>idx i ps 0) | none=>none) ps=some objs)
 (hC:C P f args' objs Q) (hvs:vs.size=args.length) (hr:∀(i:Nat) (x:RV) (v:Value),args[i]? = some x→vs[i]? = some v→bJ κ φ s.O w.heap x v) :
 Calls P f vs w fun e w'=>∃v r bS,e = .returned v∧Q r bS∧ps.length≤bS.length∧
  ∀(qs:List Nat) (r'' : RV) (fF : List av),qs.length=bS.length→nodupB qs=true→qs.take ps.length=ps→(∀i∈qs.drop ps.length,s.O i=none)→
   eG (av.ren (fun j=>qs[j]?)) bS=some fF→RV.ren (fun j=>qs[j]?) 6 r=some r''→
   ∃κ' φ',aA κ' φ' w' { s with O:=aX s.O (sO qs fF) } a∧bJ κ' φ' (aX s.O (sO qs fF)) w'.heap r'' v∧Fr κ w κ' w'∧Kp φ s.O φ' (aX s.O (sO qs fF)):=by
 obtain ⟨a1,a2⟩:=dW _ args args' hargs;obtain ⟨o1,o2⟩:=dW _ ps objs Wi
 let κc:bE:=fun b=>match κ b with
  | .dN=>.dN
  | .own i=>match idx i ps 0 with | some j=>.own j | none=>.kQ
  | .kQ=>.kQ
 let φc:bP:=fun j=>match ps[j]? with | some i=>φ i | none=>.un
 have oF:∀(i j:Nat),idx i ps 0=some j→ps[j]? = some i:=fun i j h=>by have:=(kE i ps 0 j h).2;simpa using this
 have oO:∀(i j:Nat),ps[j]? = some i→idx i ps 0=some j:=fun i j h=>by
  obtain ⟨k,hk⟩:=jY i ps 0 (List.mem_iff_getElem?.2 ⟨j,h⟩);rw [hk,jw ps hnd k j i (oF i k hk) h]
 have iV:∀b,κ b = .dN→κc b = .dN:=fun b hb=>by simp only [κc,hb]
 have hφc:∀(i j:Nat),idx i ps 0=some j→φ i≠.un→φc j=φ i:=fun i j h _=>by simp only [φc,oF i j h]
 have vR:∀(j i:Nat),ps[j]? = some i→∃p q,s.O i=some p∧p.ren (fun i=>idx i ps 0)=some q∧objs[j]? = some q:=by
  intro j i h;have hlt:=(List.getElem?_eq_some_iff.1 h).1;have hlt2:j < objs.length:=by omega
  have hq:objs[j]? = some objs[j]:=by simp [hlt2]
  have:=o2 j i _ h hq
  cases e:s.O i with
  | none=>simp only [e] at this;cases this
  | some p=>simp only [e] at this;exact ⟨p,_,rfl,this,hq⟩
 have Ko:∀(ρ:Nat→Option Nat) (p q:av),p.ren ρ=some q→av.dB (some q)=av.dB (some p):=by
  intro ρ p q h;cases p<;>simp only [av.ren] at h<;>try (injection h with h;subst h;rfl)
  ·split at h
   ·injection h with h;subst h;rfl
   ·simp at h
  ·split at h
   ·rename_i hm;injection h with h;subst h;simp only [av.dB,(dW _ _ _ hm).1]
   ·simp at h
  ·split at h
   ·injection h with h;subst h;rfl
   ·simp at h
 have Kq:∀(i j n:Nat),idx i ps 0=some j→φ i≠.un→av.dB (aV objs j)=some n→av.dB (s.O i)=some n:=by
  intro i j n h _ hn;obtain ⟨p,q,e1,e2,e3⟩:=vR j i (oF i j h);rw [e1,←Ko _ p q e2];simp only [aV,e3] at hn;exact hn
 have Y1:∀j,OR κc φc (aV objs) w.heap j (aV objs j):=by
  intro j;cases hj:ps[j]? with
  | none=>
    have:objs[j]? = none:=by rw [List.getElem?_eq_none_iff] at hj ⊢;omega
    simp only [aV,this]
    show φc j = .un
    simp only [φc,hj]
  | some i=>
    obtain ⟨p,q,e1,e2,e3⟩:=vR j i hj;simp only [aV,e3];have ho:=F.objs i;rw [e1] at ho;exact OR.ren (ρ:=fun i=>idx i ps 0) iV hφc Kq (oO i j hj) (fun b hb=>by simp only [κc,hb,oO i j hj]) e2 ho
 have Y2:Bc κc w:=F.bnd.same (fun b e=>by simp only [κc,e]) (fun b e=>by simp only [κc,e])
 have Y3:∀(i:Nat) (x:RV) (v:Value),args'[i]? = some x→vs[i]? = some v→bJ κc φc (aV objs) w.heap x v:=by
  intro i x v hx hv;have hlt:=(List.getElem?_eq_some_iff.1 hx).1;have hlt2:i < args.length:=by omega
  have hq:args[i]? = some args[i]:=by simp [hlt2]
  exact bJ.ren (ρ:=fun i=>idx i ps 0) iV hφc Kq 6 _ x v (a2 i _ x hq hx) (hr i _ v hq hv)
 refine (hC κc φc w vs Y1 Y2 (by omega) Y3).mono ?_
 rintro e w' ⟨v,r,bS,κ1,φ1,rfl,hQ,hres,DL,hbd,hle,hfr,hkp⟩
 refine ⟨v,r,bS,rfl,hQ,by omega,?_⟩;intro qs r'' fF q1 q2 q3 q4 q5 q6;obtain ⟨b1,b2⟩:=dW _ bS fF q5;obtain ⟨z1,z2⟩:=Kn qs fF s.O (by omega) q2
 have Y4:∀(j i:Nat),ps[j]? = some i→qs[j]? = some i:=fun j i h=>by
  have hlt:=(List.getElem?_eq_some_iff.1 h).1;rw [←q3,List.getElem?_take,if_pos hlt] at h;exact h
 have Qy:∀(j i:Nat),qs[j]? = some i→ps.length≤j→s.O i=none:=fun j i h hj=>q4 i (by
  refine List.mem_iff_getElem?.2 ⟨j-ps.length,?_⟩;rw [List.getElem?_drop];rw [show ps.length+(j-ps.length)=j by omega];exact h)
 have Kr:∀i,s.O i=none→φ i = .un:=fun i h=>by have:=F.objs i;rw [h] at this;exact this
 let κ2:bE:=fun b=>if b < w.heap.size∧κc b = .kQ then κ b else match κ1 b with
  | .dN=>.dN
  | .own j=>match qs[j]? with | some i=>.own i | none=>.kQ
  | .kQ=>.kQ
 let φ2:bP:=fun i=>match idx i qs 0 with | some j=>φ1 j | none=>φ i
 have Y5:∀(i j:Nat),qs[j]? = some i→idx i qs 0=some j:=fun i j h=>by
  obtain ⟨k,hk⟩:=jY i qs 0 (List.mem_iff_getElem?.2 ⟨j,h⟩)
  have:=(kE i qs 0 k hk).2
  rw [hk,jw qs q2 k j i (by simpa using this) h]
 have Wj:∀(i j:Nat),idx i qs 0=some j→qs[j]? = some i:=fun i j h=>by have:=(kE i qs 0 j h).2;simpa using this
 have Hq:∀b,b < w.heap.size→κc b = .kQ→κ1 b = .kQ∧w'.heap[b]? = w.heap[b]?:=fun b hb h=>hfr.kQ b hb h
 have Kt:∀b,κ1 b = .dN→κ2 b = .dN:=fun b hb=>by
  simp only [κ2];rw [if_neg (fun h=>by have:=(Hq b h.1 h.2).1;rw [hb] at this;cases this),hb]
 have hφ2:∀(j i:Nat),qs[j]? = some i→φ1 j≠.un→φ2 i=φ1 j:=fun j i h _=>by simp only [φ2,Y5 i j h]
 have ni:∀(j i n:Nat),qs[j]? = some i→φ1 j≠.un→av.dB (aX s.O (sO qs fF) i)=some n→av.dB (aV bS j)=some n:=by
  intro j i n h _ hn;have hlt:=(List.getElem?_eq_some_iff.1 h).1;have hlt2:j < bS.length:=by omega
  have hlt3:j < fF.length:=by omega
  have g1:bS[j]? = some bS[j]:=by simp [hlt2]
  have g2:fF[j]? = some fF[j]:=by simp [hlt3]
  rw [z1 j i h,g2,Ko _ _ _ (b2 j _ _ g1 g2)] at hn;simp only [aV,g1];exact hn
 have Wm:∀i,φ i≠.un→φ2 i=φ i:=by
  intro i hi;simp only [φ2];cases hx:idx i qs 0 with
  | none=>rfl
  | some j=>
    have hj:=Wj i j hx;simp only;by_cases hlt:j < ps.length
    ·have hp:ps[j]? = some i:=by
      have:(qs.take ps.length)[j]? = some i:=by rw [List.getElem?_take,if_pos hlt];exact hj
      rw [q3] at this;exact this
     have e1:φc j=φ i:=by simp only [φc,hp]
     rw [hkp.phi j (by rw [e1];exact hi),e1]
    ·exact absurd (Kr i (Qy j i hj (by omega))) hi
 have M:dS κ φ s.O w.heap κ2 φ2 (aX s.O (sO qs fF)) w'.heap:=
  { dN:=fun b hb=>by
     have h1:=iV b hb;have h2:=hfr.dN b h1;exact ⟨Kt b h2.1,h2.2⟩
    wQ:=hfr.wQ
    phi:=Wm
    len:=fun i n hi hn=>by
     by_cases hm:i∈qs
     ·obtain ⟨j,hj⟩:=List.mem_iff_getElem?.1 hm;by_cases hlt:j < ps.length
      ·have hp:ps[j]? = some i:=by
        have:(qs.take ps.length)[j]? = some i:=by rw [List.getElem?_take,if_pos hlt];exact hj
        rw [q3] at this;exact this
       have e1:φc j=φ i:=by simp only [φc,hp]
       have e2:φ1 j=φ i:=by rw [hkp.phi j (by rw [e1];exact hi),e1]
       have h3:=ni j i n hj (by rw [e2];exact hi) hn;have h4:=hkp.len j n (by rw [e1];exact hi) h3;exact Kq i j n (oO i j hp) hi h4
      ·exact absurd (Kr i (Qy j i hj (by omega))) hi
     ·rw [z2 i hm] at hn;exact hn }
 have hfr2:Fr κ w κ2 w':=⟨hfr.size,M.dN,fun b hb ho=>by
  have hoc:κc b = .kQ:=by simp only [κc,ho]
  refine ⟨?_,(Hq b hb hoc).2⟩;simp only [κ2];rw [if_pos ⟨hb,hoc⟩];exact ho,hfr.wQ,hfr.os,hfr.out⟩
 refine ⟨κ2,φ2,⟨fun t=>(F.regs t).mono M,fun i=>?_,F.bnd.step hfr2 (fun b hb=>?_),F.n,F.df.mono M⟩,?_,hfr2,M.kp⟩
 ·by_cases hm:i∈qs
  ·obtain ⟨j,hj⟩:=List.mem_iff_getElem?.1 hm;have hlt:=(List.getElem?_eq_some_iff.1 hj).1;have hlt2:j < bS.length:=by omega
   have hlt3:j < fF.length:=by omega
   have g1:bS[j]? = some bS[j]:=by simp [hlt2]
   have g2:fF[j]? = some fF[j]:=by simp [hlt3]
   simp only [z1 j i hj,g2];have ho:=DL j;simp only [aV,g1] at ho
   exact OR.ren (ρ:=fun j=>qs[j]?) Kt (fun j i h h'=>hφ2 j i h h') (fun j i n h h'=>ni j i n h h') hj (fun b hb=>by
    simp only [κ2];rw [if_neg (fun h=>by have:=(Hq b h.1 h.2).1;rw [hb] at this;cases this),hb];simp only [hj]) (b2 j _ _ g1 g2) ho
  ·simp only [z2 i hm]
   have hx:idx i qs 0=none:=by
    cases hx:idx i qs 0 with
    | none=>rfl
    | some j=>exact absurd (List.mem_iff_getElem?.2 ⟨j,Wj i j hx⟩) hm
   have hxp:idx i ps 0=none:=by
    cases hx:idx i ps 0 with
    | none=>rfl
    | some j=>exact absurd (List.mem_iff_getElem?.2 ⟨j,Y4 j i (oF i j hx)⟩) hm
   refine (F.objs i).mono M (fun b hb=>?_) (by simp only [φ2,hx]);have hlt:=F.bnd.lt b (by rw [hb];simp);have hoc:κc b = .kQ:=by simp only [κc,hb,hxp]
   refine ⟨?_,(Hq b hlt hoc).2⟩;simp only [κ2];rw [if_pos ⟨hlt,hoc⟩];exact hb
 ·simp only [κ2] at hb;split at hb
  ·rename_i h;exact Nat.lt_of_lt_of_le h.1 hfr.size
  ·refine hbd.lt b (fun e=>?_);rw [e] at hb;exact hb rfl
 ·exact bJ.ren (ρ:=fun j=>qs[j]?) Kt (fun j i h h'=>hφ2 j i h h') (fun j i n h h'=>ni j i n h h') 6 r r'' v q6 hres
end Go.Am
namespace Go.Am
set_option linter.unusedSectionVars false
open Go.MapKept
variable {P:Program} [Gl]
def keq:DV→DV→Bool
 | .int _ a,.int _ b=>a==b
 | .str a,.str b=>a==b
 | .bool a,.bool b=>a==b
 | _,_=>false
def jM:Option TypeDesc→DV→Bool
 | some (.int k),.int k' _=>lq k k'
 | some .string,.str _=>true
 | some .bool,.bool _=>true
 | _,_=>false
def DN (k:DV) (es:List (DV×DV)):Bool:=es.any fun p=>keq k p.1
def zf (k z:DV):List (DV×DV)→DV
 | []=>z
 | p::r=>bif keq k p.1 then p.2 else zf k z r
def xO (k v:DV):List (DV×DV)→List (DV×DV)
 | []=>[(k,v)]
 | p::r=>bif keq k p.1 then (k,v)::r else p::xO k v r
def xP (k:DV):List (DV×DV)→List (DV×DV)
 | []=>[]
 | p::r=>bif keq k p.1 then r else p::xP k r
def lC (d:Option TypeDesc) (es:List (DV×DV)):Bool:=es.all fun p=>jM d p.1
theorem p9 {a b:IntKind} (h:lq a b=true):a=b:=by cases a<;>cases b<;>first | rfl | (simp [lq] at h)
theorem nS {κ:bE} {h:Heap} {d:TypeDesc} {k:DV} {v:Value} (hk:jM (some d) k=true) (r:DR κ h k v):IsKey d v:=by
 cases r<;>cases d<;>simp_all [jM,IsKey]
 exact (p9 hk).symm
theorem Ou {κ:bE} {h:Heap} {d:TypeDesc} {k x:DV} {v u:Value} (hk:jM (some d) k=true) (hx:jM (some d) x=true) (r:DR κ h k v) (q:DR κ h x u):keq k x=true↔v=u:=by
 cases d<;>cases k<;>(try (simp [jM] at hk;done))<;>cases x<;>(try (simp [jM] at hx;done))<;>cases r<;>cases q<;>simp_all [keq,jM]
 have h1:=p9 hk;have h2:=p9 hx;rw [←h1,←h2];simp
theorem find_spec {κ:bE} {h:Heap} {d:TypeDesc} {k:DV} {kv:Value} (hk:jM (some d) k=true) (rk:DR κ h k kv) :
 ∀(es:List (DV×DV)) (ml:List MapEntry) (n:Nat),ml.length=es.length→lC (some d) es=true→
  (∀(j:Nat) (x:DV×DV) (e:MapEntry),es[j]? = some x→ml[j]? = some e→DR κ h x.1 e.key∧DR κ h x.2 e.val)→
  (Instr.findNow d kv ml n=some none∧DN k es=false∧(∀z,zf k z es=z)∧(∀v,xO k v es=es++[(k,v)])∧xP k es=es)∨
  ∃j x e,Instr.findNow d kv ml n=some (some (n+j,e.val))∧es[j]? = some x∧ml[j]? = some e∧e.key=kv∧DN k es=true∧(∀z,zf k z es=x.2)∧(∀v,xO k v es=es.set j (k,v))∧xP k es=es.eraseIdx j
 | [],[],n,_,_,_=>.inl ⟨rfl,rfl,fun _=>rfl,fun _=>rfl,rfl⟩
 | [],_::_,_,hl,_,_=>by simp at hl
 | _::_,[],_,hl,_,_=>by simp at hl
 | x::es,e::ml,n,hl,hks,hr=>by
   simp only [lC,List.all_cons,Bool.and_eq_true] at hks;obtain ⟨r1,r2⟩:=hr 0 x e rfl rfl;obtain ⟨r,hs,hiff⟩:=sameNow_of_keys (nS hk rk) (nS hks.1 r1);have hq:=Ou hk hks.1 rk r1;cases r with
   | true=>
     have e1:kv=e.key:=hiff.1 rfl;have e2:keq k x.1=true:=hq.2 e1;exact .inr ⟨0,x,e,by simp [Instr.findNow,hs],rfl,rfl,e1.symm,by simp [DN,e2],fun z=>by simp [zf,e2],fun v=>by simp [xO,e2],by simp [xP,e2]⟩
   | false=>
     have e2:keq k x.1=false:=by
      cases hh:keq k x.1 with
      | false=>rfl
      | true=>exact absurd (hiff.2 (hq.1 hh)) (by simp)
     rcases find_spec hk rk es ml (n+1) (by simpa using hl) hks.2 (fun j y f hy hf=>hr (j+1) y f (by simpa using hy) (by simpa using hf)) with ⟨h1,h2,h3,h4,h5⟩ | ⟨j,y,f,h1,h2,h3,h4,h5,h6,h7,h8⟩
     ·exact .inl ⟨by simp [Instr.findNow,hs,h1],by simpa [DN,e2] using h2,fun z=>by simp [zf,e2,h3],fun v=>by simp [xO,e2,h4],by simp [xP,e2,h5]⟩
     ·exact .inr ⟨j+1,y,f,by simp [Instr.findNow,hs,h1];omega,by simpa using h2,by simpa using h3,h4,by simp [DN,e2];simpa [DN] using h5,fun z=>by simp [zf,e2,h6],fun v=>by simp [xO,e2,h7],by simp [xP,e2,h8]⟩
def nk (O:Tab) (sl:Nat) (hint:Option RV):Option dz:=
 match O sl,hint with
 | none,none=>some { val:=.map sl,upd:=[(sl,.map [])] }
 | _,_=>none
def rowsOf (O:Tab):RV→Option (List (DV×DV))
 | .d .ak=>some []
 | .map i=>match O i with
   | some (.map es)=>some es
   | _=>none
 | _=>none
def nu (E:Env) (O:Tab) (t:Nat) (x k:RV) (ok:Bool):Option dz:=
 match E.und t,rowsOf O x,k with
 | some (.map kt et),some es,.d k=>match E.zero et with
   | some z=>bif jM (E.und kt) k then
      some { val:=bif ok then .d (.bn [zf k z es,.bool (DN k es)]) else .d (zf k z es),conds:=[lC (E.und kt) es] }
     else none
   | none=>none
 | _,_,_=>none
def gV (E:Env) (O:Tab) (t:Nat) (m k v:RV):Option dz:=
 match E.und t,m,k with
 | some (.map kt _),.map i,.d k=>match sI O v,O i with
   | some (y,u,c),some (.map es)=>bif jM (E.und kt) k&&(u.all fun p=>!(Nat.beq p.1 i)) then
      some { val:=.bot,upd:=u++[(i,.map (xO k y es))],conds:=lC (E.und kt) es::c }
     else none
   | _,_=>none
 | _,_,_=>none
def ny (E:Env) (O:Tab) (t:Nat) (m k:RV):Option dz:=
 match E.und t,m,k with
 | some (.map kt _),.map i,.d k=>match O i with
   | some (.map es)=>bif jM (E.und kt) k then
      some { val:=.d (.bn []),upd:=[(i,.map (xP k es))],conds:=[lC (E.und kt) es] }
     else none
   | _=>none
 | _,_,_=>none
theorem run_makeMap' (t:Nat) (w:World):(Instr.makeMap t none).run P w = .ok (.map (some w.heap.size)) { w with heap:=w.heap.push (.map #[] 0) }:=rfl
theorem Fv {κ:bE} {φ:bP} {w:World} {s:cu} {a:Act} (F:aA κ φ w s a) {sl t:Nat} {res:dz} (hx:nk s.O sl none=some res):Out P κ φ w s a res.val res.upd (Instr.makeMap t none):=by
 unfold nk at hx;split at hx
 ·rename_i hO _;injection hx with hx;subst hx
  obtain ⟨q1,q2,q3⟩:=F.alloc (i:=sl) (p:=.map []) (o:=.map #[] 0) (w':={ w with heap:=w.heap.push (.map #[] 0) }) rfl hO
   (fun _=>⟨w.heap.size,#[],0,aS _ _ _,cZ _ _ _,aW _ _,⟨rfl,by simp⟩,fun j x e hx=>by simp at hx⟩)
  exact ⟨_,_,_,_,run_makeMap' t w,q1,.map (aS _ _ _),q3,q2.kp⟩
 ·cases hx
theorem I7 {κ:bE} {φ:bP} {w:World} {s:cu} {a:Act} (F:aA κ φ w s a) {t:Nat} {x k:RV} {ok:Bool} {v u:Value} {res:dz}
 (hx:nu (Env.of P) s.O t x k ok=some res) (hc:∀b∈res.conds,b=true) (r:bJ κ φ s.O w.heap x v) (r2:bJ κ φ s.O w.heap k u) :
 Out P κ φ w s a res.val res.upd (Instr.lookup t v u ok):=by
 unfold nu at hx;split at hx
 ·rename_i kt et es kd hu hrows;cases hz:(Env.of P).zero et with
  | none=>rw [hz] at hx;simp at hx
  | some z=>
    rw [hz] at hx;simp only at hx;cases hk:jM ((Env.of P).und kt) kd with
    | false=>rw [hk] at hx;simp at hx
    | true=>
      rw [hk] at hx;simp only [cond_true,Option.some.injEq] at hx;subst hx;cases hd:(Env.of P).und kt with
      | none=>rw [hd] at hk;simp [jM] at hk
      | some d=>
        rw [hd] at hk;have hks:lC (some d) es=true:=by have:=hc (lC ((Env.of P).und kt) es) (by simp);rw [hd] at this;exact this
        cases r2 with
        | d rk=>
        have hu' : P.underlying t=some (.map kt et):=hu;have hd' : P.underlying kt=some d:=hd;obtain ⟨zv,hz1,hz2⟩:=fC hz w
        have fin:∀(ml:List MapEntry),ml.length=es.length→(∀(j:Nat) (x:DV×DV) (e:MapEntry),es[j]? = some x→ml[j]? = some e→DR κ w.heap x.1 e.key∧DR κ w.heap x.2 e.val)→
         (∀(r:Value),((do
           Instr.checkKey ml.toArray.isEmpty 10000 kt u
           let (v,ok') ←match ←Instr.findKey kt u ml with
            | some (_,v)=>pure (v,true)
            | none=>pure (←zeroValue et,false)
           pure (if ok then .tuple #[v,.bool ok'] else v):Sem Value)).run P w = .ok r w→(Instr.lookup t v u ok).run P w = .ok r w)→
         Out P κ φ w s a (bif ok then .d (.bn [zf kd z es,.bool (DN kd es)]) else .d (zf kd z es)) [] (Instr.lookup t v u ok):=by
         intro ml hl hr hrun;rcases find_spec hk rk es ml 0 hl hks hr with ⟨h1,h2,h3,_,_⟩ | ⟨j,y,e,h1,h2,h3,h4,h5,h6,_,_⟩
         ·have hf:(Instr.findKey kt u ml).run P w = .ok none w:=run_findKey hd' h1;refine Out.pure (v:=if ok then .tuple #[zv,.bool false] else zv) F (hrun _ ?_) ?_
          ·simp only [Sem.run_bind,run_checkKey hd' (nS hk rk),hf,hz1,Result.andThen_ok,Sem.run_pure]
          ·rw [h2,h3];cases ok with
           | true=>exact .d (.bn rfl (fun i x v hx hv=>by
              match i,hx,hv with
              | 0,hx,hv=>simp at hx hv;subst hx;subst hv;exact iI hz2
              | 1,hx,hv=>simp at hx hv;subst hx;subst hv;exact .bool _
              | i+2,hx,hv=>simp at hx))
           | false=>exact .d (iI hz2)
         ·have hf:(Instr.findKey kt u ml).run P w = .ok (some (0+j,e.val)) w:=run_findKey hd' h1;have q:=(hr j y e h2 h3).2;refine Out.pure (v:=if ok then .tuple #[e.val,.bool true] else e.val) F (hrun _ ?_) ?_
          ·simp only [Sem.run_bind,run_checkKey hd' (nS hk rk),hf,Result.andThen_ok,Sem.run_pure]
          ·rw [h5,h6];cases ok with
           | true=>exact .d (.bn rfl (fun i x v hx hv=>by
              match i,hx,hv with
              | 0,hx,hv=>simp at hx hv;subst hx;subst hv;exact q
              | 1,hx,hv=>simp at hx hv;subst hx;subst hv;exact .bool _
              | i+2,hx,hv=>simp at hx))
           | false=>exact .d q
        unfold rowsOf at hrows;split at hrows
        ·injection hrows with hrows;subst hrows;cases r with
         | d hr=>
         cases hr;refine fin [] rfl (by simp) (fun r hr=>?_);rw [←hr];simp only [Instr.lookup,Sem.run_bind,run_underlying hu',Result.andThen_ok,Sem.run_pure];rfl
        ·rename_i i;have ho:=F.objs i;cases hO:s.O i with
         | none=>rw [hO] at hrows;simp at hrows
         | some p=>
           rw [hO] at hrows ho;cases p<;>simp only at hrows<;>try (simp at hrows;done)
           injection hrows with hrows;subst hrows;obtain ⟨b,eB,clock,g1,g2,g3,g4,g5⟩:=ho;cases r with
           | map hφ=>
           rename_i b2
           have:b=b2:=by rw [g1] at hφ;injection hφ
           subst this;refine fin eB.toList (by simpa using g4.1) (fun j x e hx he=>⟨(g5 j x e hx (by simpa using he)).1,(g5 j x e hx (by simpa using he)).2.1⟩) (fun r hr=>?_);rw [←hr];simp only [Instr.lookup,Sem.run_bind,run_underlying hu',Result.andThen_ok,Go.MapKept.run_getObj_map g3,Sem.run_pure];rfl
        ·cases hrows
 ·cases hx
theorem DT (O:Tab) (u:List (Nat×av)) (i:Nat) (p:av):aX O (u++[(i,p)])=bF (aX O u) i (some p):=by simp [aX]
theorem zX {κ:bE} {φ:bP} {w:World} {s:cu} {a:Act} (F:aA κ φ w s a) {i b:Nat} {es' : List (DV×DV)} {eB qM : Array MapEntry} {clock clock' : Nat}
 (g1:φ i = .at b) (g2:κ b = .own i) (g3:w.heap[b]? = some (.map eB clock)) (hsz:J5 qM es'.length)
 (hr:∀(j:Nat) (x:DV×DV) (e:MapEntry),es'[j]? = some x→qM[j]? = some e→DR κ w.heap x.1 e.key∧DR κ w.heap x.2 e.val∧e.born < clock') :
 aA κ φ (World.row w b (.map qM clock')) { s with O:=bF s.O i (some (.map es')) } a∧dS κ φ s.O w.heap κ φ (bF s.O i (some (.map es'))) (World.row w b (.map qM clock')).heap∧Fr κ w κ (World.row w b (.map qM clock')):=
 F.write g2 g1 (fun c ty fz h=>by rw [g3] at h;simp at h) (fun n hn=>by simp [av.dB] at hn)
  (fun M=>⟨b,qM,clock',g1,g2,dL g3,hsz,fun j x e hx he=>⟨(hr j x e hx he).1.mono M.dN,(hr j x e hx he).2.1.mono M.dN,(hr j x e hx he).2.2⟩⟩)
theorem Fw {eB:Array MapEntry} {e:MapEntry} (h:(eB.toList.map fun e=>e.born).Nodup) (hb:∀x∈eB.toList,x.born < e.born):((eB.push e).toList.map fun e=>e.born).Nodup:=by
 rw [Array.toList_push,List.map_append];refine List.nodup_append.2 ⟨h,by simp,fun a ha b hb'=>?_⟩;simp only [List.map_cons,List.map_nil,List.mem_singleton] at hb';subst hb';obtain ⟨x,hx,rfl⟩:=List.mem_map.1 ha
 have:=hb x hx
 omega
theorem Bt {eB:Array MapEntry} {i:Nat} {f:MapEntry→MapEntry} (hf:∀e,(f e).born=e.born) (h:(eB.toList.map fun e=>e.born).Nodup):((eB.modify i f).toList.map fun e=>e.born).Nodup:=by
 have:((eB.modify i f).toList.map fun e=>e.born)=(eB.toList.map fun e=>e.born):=by
  apply List.ext_getElem?;intro j;rw [List.getElem?_map,List.getElem?_map,Array.getElem?_toList,Array.getElem?_toList,Array.getElem?_modify];split
  ·cases eB[j]?<;>simp [hf]
  ·rfl
 rw [this];exact h
theorem DU {eB:Array MapEntry} {i:Nat} (h:(eB.toList.map fun e=>e.born).Nodup):((eB.eraseIdxIfInBounds i).toList.map fun e=>e.born).Nodup:=by
 have:(eB.eraseIdxIfInBounds i).toList=eB.toList.eraseIdx i:=by simp
 rw [this];exact h.sublist ((List.eraseIdx_sublist _ _).map _)
theorem Bu (n:Nat) {d:TypeDesc} {v:Value} (h:IsKey d v):Instr.sameBits n v v=true:=by
 cases v with
 | bool b=>simp [Instr.sameBits]
 | int k n=>simp [Instr.sameBits]
 | string s=>simp [Instr.sameBits,bytes_beq]
 | _=>cases d<;>simp [IsKey] at h
theorem Bv {κ:bE} {φ:bP} {w:World} {s:cu} {a:Act} (F:aA κ φ w s a) {t:Nat} {m k y:RV} {mv kv yv:Value} {res:dz}
 (hx:gV (Env.of P) s.O t m k y=some res) (hc:∀b∈res.conds,b=true) (r:bJ κ φ s.O w.heap m mv) (r2:bJ κ φ s.O w.heap k kv) (r3:bJ κ φ s.O w.heap y yv) :
 J8 P κ φ w s a res.upd (Instr.mapUpdate t mv kv yv):=by
 unfold gV at hx;split at hx
 ·rename_i kt et i kd hu;split at hx
  ·rename_i yd u c es htk hO;cases hg:(jM ((Env.of P).und kt) kd&&(u.all fun p=>!(Nat.beq p.1 i))) with
   | false=>rw [hg] at hx;simp at hx
   | true=>
     rw [hg] at hx;simp only [cond_true,Option.some.injEq] at hx;subst hx;simp only [Bool.and_eq_true] at hg;obtain ⟨hk,hui⟩:=hg;cases hd:(Env.of P).und kt with
     | none=>rw [hd] at hk;simp [jM] at hk
     | some d=>
       rw [hd] at hk;have hks:lC (some d) es=true:=by have:=hc (lC ((Env.of P).und kt) es) (by simp);rw [hd] at this;exact this
       obtain ⟨κ1,F1,M1,R1,_,ry⟩:=Bl F (ku.refl _) htk (fun b hb=>hc b (by simp [hb])) r3;have r2':=r2.mono M1;have r':=r.mono M1;cases r2' with
       | d rk=>
       have hu' : P.underlying t=some (.map kt et):=hu;have hd' : P.underlying kt=some d:=hd;have Qu:aX s.O u i=some (.map es):=by rw [rO _ _ hui];exact hO
       have ho:=F1.objs i;simp only [Qu] at ho;obtain ⟨b,eB,clock,g1,g2,g3,⟨g4,gn⟩,g5⟩:=ho;cases r' with
       | map hφ=>
       rename_i b2
       have:b=b2:=by rw [g1] at hφ;injection hφ
       subst this;have hq:∀(o:Obj),(setObj b o).run P w = .ok () (World.row w b o):=fun o=>Go.MapKept.run_setObj_map o g3
       have fin:∀(qM : Array MapEntry) (clock' : Nat),J5 qM (xO kd yd es).length→(∀(j:Nat) (x:DV×DV) (e:MapEntry),(xO kd yd es)[j]? = some x→qM[j]? = some e→DR κ1 w.heap x.1 e.key∧DR κ1 w.heap x.2 e.val∧e.born < clock')→
        (Instr.mapUpdate t (.map (some b)) kv yv).run P w = .ok () (World.row w b (.map qM clock'))→J8 P κ φ w s a (u++[(i,.map (xO kd yd es))]) (Instr.mapUpdate t (.map (some b)) kv yv):=by
        intro qM clock' h1 h2 h3;obtain ⟨q1,q2,q3⟩:=zX F1 (i:=i) (es':=xO kd yd es) g1 g2 g3 h1 h2;refine ⟨_,κ1,φ,h3,?_,R1.trans q3,?_⟩
        ·rw [DT];exact q1
        ·rw [DT];exact M1.kp.trans q2.kp
       have hrun:∀(o:Option (Nat×Value)),Instr.findNow d kv eB.toList 0=some o→(Instr.mapUpdate t (.map (some b)) kv yv).run P w=((match o with
        | some (i,_)=>do
          let key ←Instr.keyThatStays (((eB[i]?).map (·.key)).getD kv) kv
          setObj b (.map (eB.modify i fun e=>{ e with key,val:=yv }) clock)
        | none=>setObj b (.map (eB.push { key:=kv,val:=yv,born:=clock }) (clock+1))):Sem Unit).run P w:=by
        intro o h;simp only [Instr.mapUpdate,Sem.run_bind,run_underlying hu',Result.andThen_ok,Go.MapKept.run_getObj_map g3,run_checkKey hd' (nS hk rk),run_findKey hd' h];cases o<;>rfl
       rcases find_spec hk rk es eB.toList 0 (by simpa using g4) hks (fun j x e hx he=>⟨(g5 j x e hx (by simpa using he)).1,(g5 j x e hx (by simpa using he)).2.1⟩) with ⟨h1,_,_,h4,_⟩ | ⟨j,x0,e,h1,h2,h3,h4,_,_,h7,_⟩
       ·refine fin (eB.push { key:=kv,val:=yv,born:=clock }) (clock+1) ⟨by rw [h4];simp [g4],Fw gn (fun x hx=>by
         obtain ⟨j,hj,he⟩:=List.mem_iff_getElem.1 hx;simp at hj;have hj2:j < es.length:=by omega
         exact (g5 j es[j] x (by simp [hj2]) (by rw [←he];simp [hj])).2.2)⟩ (fun j x e hx he=>?_) (by rw [hrun _ h1];exact hq _)
        rw [h4] at hx;by_cases hj:j < es.length
        ·rw [List.getElem?_append_left hj] at hx;rw [Array.getElem?_push_lt (by omega)] at he;have he' : eB[j]? = some e:=by rw [←he];simp [show j < eB.size by omega]
         obtain ⟨q1,q2,q3⟩:=g5 j x e hx he';exact ⟨q1,q2,by omega⟩
        ·have hj2:j=es.length:=by
          have:=(List.getElem?_eq_some_iff.1 hx).1;simp at this;omega
         subst hj2;rw [←g4] at he;simp at hx he;subst hx;subst he;exact ⟨rk,ry,by simp⟩
       ·have hj:j < eB.size:=by have:=(List.getElem?_eq_some_iff.1 h3).1;simpa using this
        have hme:eB[j]? = some e:=by simpa using h3
        have hkey:(Instr.keyThatStays (((eB[0+j]?).map (·.key)).getD kv) kv).run P w = .ok kv w:=by
         have:((eB[0+j]?).map (·.key)).getD kv=kv:=by rw [Nat.zero_add,hme];simp [h4]
         rw [this];have hsb:Instr.sameBits 10000 kv kv=true:=Bu 10000 (nS hk rk);simp [Instr.keyThatStays,hsb]
        refine fin (eB.modify (0+j) fun e=>{ e with key:=kv,val:=yv }) clock ⟨by rw [h7];simp [g4],Bt (fun _=>rfl) gn⟩ (fun j' x e' hx he=>?_) (by
         rw [hrun _ h1];simp only [Sem.run_bind,hkey,Result.andThen_ok];exact hq _)
        rw [h7,List.getElem?_set] at hx;rw [Nat.zero_add,Array.getElem?_modify] at he;by_cases hjj:j=j'
        ·subst hjj;rw [if_pos rfl] at hx he;rw [hme] at he
         have hx' : x=(kd,yd):=by
          split at hx
          ·simpa using hx.symm
          ·simp at hx
         simp at he;subst hx';subst he;exact ⟨rk,ry,(g5 j x0 e h2 hme).2.2⟩
        ·rw [if_neg hjj] at hx he;exact g5 j' x e' hx he
  ·cases hx
 ·cases hx
theorem I8 {κ:bE} {φ:bP} {w:World} {s:cu} {a:Act} (F:aA κ φ w s a) {t t2 ty:Nat} {m k:RV} {mv kv:Value} {res:dz}
 (hx:ny (Env.of P) s.O t m k=some res) (hc:∀b∈res.conds,b=true) (r:bJ κ φ s.O w.heap m mv) (r2:bJ κ φ s.O w.heap k kv) :
 Out P κ φ w s a res.val res.upd (Builtin.delete_ #[t,t2] ty #[mv,kv]):=by
 unfold ny at hx;split at hx
 ·rename_i kt et i kd hu;split at hx
  ·rename_i es hO;cases hk:jM ((Env.of P).und kt) kd with
   | false=>rw [hk] at hx;simp at hx
   | true=>
     rw [hk] at hx;simp only [cond_true,Option.some.injEq] at hx;subst hx;cases hd:(Env.of P).und kt with
     | none=>rw [hd] at hk;simp [jM] at hk
     | some d=>
       rw [hd] at hk;have hks:lC (some d) es=true:=by have:=hc (lC ((Env.of P).und kt) es) (by simp);rw [hd] at this;exact this
       cases r2 with
       | d rk=>
       have hu' : P.underlying t=some (.map kt et):=hu;have hd' : P.underlying kt=some d:=hd;have ho:=F.objs i;rw [hO] at ho;obtain ⟨b,eB,clock,g1,g2,g3,⟨g4,gn⟩,g5⟩:=ho;cases r with
       | map hφ=>
       rename_i b2
       have:b=b2:=by rw [g1] at hφ;injection hφ
       subst this;have hq:∀(o:Obj),(setObj b o).run P w = .ok () (World.row w b o):=fun o=>Go.MapKept.run_setObj_map o g3
       have fin:∀(qM : Array MapEntry),J5 qM (xP kd es).length→(∀(j:Nat) (x:DV×DV) (e:MapEntry),(xP kd es)[j]? = some x→qM[j]? = some e→DR κ w.heap x.1 e.key∧DR κ w.heap x.2 e.val∧e.born < clock)→
        (Builtin.delete_ #[t,t2] ty #[.map (some b),kv]).run P w = .ok (.tuple #[]) (World.row w b (.map qM clock))→Out P κ φ w s a (.d (.bn [])) [(i,.map (xP kd es))] (Builtin.delete_ #[t,t2] ty #[.map (some b),kv]):=by
        intro qM h1 h2 h3;obtain ⟨q1,q2,q3⟩:=zX F (i:=i) (es':=xP kd es) g1 g2 g3 h1 h2;exact ⟨_,_,κ,φ,h3,q1,.d (.bn rfl (by simp)),q3,q2.kp⟩
       have hrun:∀(o:Option (Nat×Value)) (ob:Obj),Instr.findNow d kv eB.toList 0=some o→ob=(match o with
        | some (i,_)=>.map (eB.eraseIdxIfInBounds i) clock
        | none=>.map eB clock)→(Builtin.delete_ #[t,t2] ty #[.map (some b),kv]).run P w = .ok (.tuple #[]) (World.row w b ob):=by
        intro o ob h DL;subst DL;have e0:(#[t,t2]:Array TypeId)[0]? = some t:=rfl;have e1:(#[Value.map (some b),kv]:Array Value)[0]? = some (.map (some b)):=rfl;have e2:(#[Value.map (some b),kv]:Array Value)[1]? = some kv:=rfl;simp only [Builtin.delete_,e0,e1,e2,Sem.run_bind,run_underlying hu',Result.andThen_ok,Go.MapKept.run_getObj_map g3,run_checkKey hd' (nS hk rk),run_findKey hd' h];cases o with
        | none=>simp only [Sem.run_bind,hq,Result.andThen_ok,Sem.run_pure]
        | some p=>simp only [Sem.run_bind,hq,Result.andThen_ok,Sem.run_pure]
       rcases find_spec hk rk es eB.toList 0 (by simpa using g4) hks (fun j x e hx he=>⟨(g5 j x e hx (by simpa using he)).1,(g5 j x e hx (by simpa using he)).2.1⟩) with ⟨h1,_,_,_,h5⟩ | ⟨j,x0,e,h1,h2,h3,h4,_,_,_,h8⟩
       ·exact fin eB ⟨by rw [h5];exact g4,gn⟩ (by rw [h5];exact g5) (hrun none _ h1 rfl)
       ·have hj:j < eB.size:=by have:=(List.getElem?_eq_some_iff.1 h3).1;simpa using this
        refine fin (eB.eraseIdxIfInBounds (0+j)) ?_ (fun j' x e' hx he=>?_) (hrun _ _ h1 rfl)
        ·refine ⟨?_,DU gn⟩;rw [h8,Nat.zero_add];simp [Array.eraseIdxIfInBounds,List.length_eraseIdx,g4,show j < es.length by omega]
        ·rw [h8,List.getElem?_eraseIdx] at hx
         have he2:(eB.toList.eraseIdx j)[j']? = some e':=by
          rw [Nat.zero_add] at he;rw [←he,←Array.getElem?_toList];simp
         rw [List.getElem?_eraseIdx] at he2;split at hx<;>rename_i hlt
         ·rw [if_pos hlt] at he2;exact g5 j' x e' hx (by simpa using he2)
         ·rw [if_neg hlt] at he2;exact g5 (j'+1) x e' hx (by simpa using he2)
  ·cases hx
 ·cases hx
def nT (E:Env) (O:Tab) (e i sz off len:Nat):Option dz:=
 match O i,E.zero e,E.size e with
 | some (.arr ty sz' els),some z,some zz=>bif Nat.beq sz' sz&&Nat.beq zz sz&&Nat.beq z.cells.length sz&&gJ z.cells then
    some { val:=.d (.bn []),upd:=[(i,.arr ty sz (els.take off++List.replicate len z++els.drop (off+len)))],conds:=[decide (off+len≤els.length)] }
   else none
 | _,_,_=>none
def qb (E:Env) (O:Tab) (t:Nat) (x:RV):Option dz:=
 match E.und t,x with
 | some (.slice e),.own i sz=>match O i with
   | some (.arr _ _ els)=>nT E O e i sz 0 els.length
   | _=>none
 | some (.slice e),.sub i sz off len=>nT E O e i sz off len
 | _,_=>none
theorem Hr (z:Array Value) (n:Nat):(Builtin.zeroCells z n).size=n*z.size:=by simp [Builtin.zeroCells]
theorem qW (z:Array Value) (n j:Nat) (hj:j < n*z.size):(Builtin.zeroCells z n)[j]? = z[j % z.size]?:=by
 have hz:0 < z.size:=by
  rcases Nat.eq_zero_or_pos z.size with h | h
  ·rw [h] at hj;simp at hj
  ·exact h
 have:j % z.size < z.size:=Nat.mod_lt _ hz
 simp [Builtin.zeroCells,hj,this]
theorem EL.clear {κ:bE} {h:Heap} {c:Array Value} {sz off len:Nat} {els:List DV} {z:DV} {zv:Array Value} (e:EL κ h c 0 sz els) (hl:off+len≤els.length)
 (hz:z.cells.length=sz∧∀y∈z.cells,y.iD=true) (hzv:zv.size=sz) (hr:∀(j:Nat) (y:DV) (v:Value),z.cells[j]? = some y→zv[j]? = some v→DR κ h y v) :
 EL κ h (eP c (off*sz) (Builtin.zeroCells zv len).toList) 0 sz (els.take off++List.replicate len z++els.drop (off+len)):=by
 obtain ⟨e1,e2,e3⟩:=e;have hzl:(Builtin.zeroCells zv len).toList.length=len*sz:=by simp [Hr,hzv]
 have hle:=Nat.mul_le_mul_right sz hl;rw [Nat.add_mul] at hle;have hb:off*sz+(Builtin.zeroCells zv len).toList.length≤c.size:=by rw [hzl];omega
 have hlen:(els.take off++List.replicate len z++els.drop (off+len)).length=els.length:=by simp;omega
 have Wn:∀(i:Nat) (x:DV),(els.take off++List.replicate len z++els.drop (off+len))[i]? = some x→(off≤i∧i < off+len∧x=z)∨((i < off∨off+len≤i)∧els[i]? = some x):=by
  intro i x hx;by_cases h1:i < off
  ·rw [List.append_assoc,List.getElem?_append_left (by simp;omega),List.getElem?_take,if_pos h1] at hx;exact .inr ⟨.inl h1,hx⟩
  ·by_cases h2:i < off+len
   ·rw [List.getElem?_append_left (by simp;omega),List.getElem?_append_right (by simp;omega),List.getElem?_replicate] at hx;split at hx
    ·injection hx with hx;exact .inl ⟨by omega,h2,hx.symm⟩
    ·cases hx
   ·rw [List.getElem?_append_right (by simp;omega),List.getElem?_drop] at hx;refine .inr ⟨.inr (by omega),?_⟩;rw [←hx];congr 1;simp;omega
 refine ⟨fun x hx=>?_,by rw [dV _ _ _ hb,hlen];simpa using e2,fun i x j y v hx hy hv=>?_⟩
 ·obtain ⟨i,hi⟩:=List.mem_iff_getElem?.1 hx;rcases Wn i x hi with ⟨_,_,rfl⟩ | ⟨_,h⟩
  ·exact hz
  ·exact e1 x (List.mem_iff_getElem?.2 ⟨i,h⟩)
 ·rw [iE _ _ _ hb,hzl] at hv;simp only [Nat.zero_add] at hv;rcases Wn i x hx with ⟨h1,h2,rfl⟩ | ⟨h1,h⟩
  ·have hj:j < sz:=by have:=(List.getElem?_eq_some_iff.1 hy).1;omega
   have q1:=Nat.mul_le_mul_right sz h1;have q2:=Nat.mul_le_mul_right sz (show i+1≤off+len from h2)
   rw [Nat.add_mul,Nat.add_mul] at q2;rw [if_neg (by omega),if_pos (by omega)] at hv;have e0:i*sz+j-off*sz=(i-off)*sz+j:=by rw [Nat.sub_mul];omega
   have e4:(i-off)*sz+j < len*zv.size:=by rw [hzv];rw [Nat.sub_mul];omega
   rw [e0,Array.getElem?_toList,qW _ _ _ e4,hzv] at hv;rw [Nat.add_comm,Nat.add_mul_mod_self_right,Nat.mod_eq_of_lt hj] at hv;exact hr j y v hy hv
  ·have hj:j < sz:=by have:=(e1 x (List.mem_iff_getElem?.2 ⟨i,h⟩)).1;have:=(List.getElem?_eq_some_iff.1 hy).1;omega
   refine e3 i x j y v h hy ?_;rw [Nat.zero_add];rcases h1 with h1 | h1
   ·have q:=Nat.mul_le_mul_right sz (show i+1≤off from h1)
    rw [Nat.add_mul] at q;rw [if_pos (by omega)] at hv;exact hv
   ·have q:=Nat.mul_le_mul_right sz h1;rw [Nat.add_mul] at q;rw [if_neg (by omega),if_neg (by omega)] at hv;exact hv
theorem xQ {κ:bE} {φ:bP} {w:World} {s:cu} {a:Act} (F:aA κ φ w s a) {t e i sz off len ty:Nat} {v:Value} {res:dz} (hu:(Env.of P).und t=some (.slice e))
 (hx:nT (Env.of P) s.O e i sz off len=some res) (hc:∀b∈res.conds,b=true)
 (hv:(len=0∧∃base cap,v = .slice base 0 cap)∨∃b cap,φ i = .at b∧v = .slice (some ⟨b,off*sz,none⟩) len cap) :
 Out P κ φ w s a res.val res.upd (Builtin.clear_ #[t] ty #[v]):=by
 have hu' : P.underlying t=some (.slice e):=hu;unfold nT at hx;split at hx
 ·rename_i ety sz' els z zz hO hz hzz;cases hg:(Nat.beq sz' sz&&Nat.beq zz sz&&Nat.beq z.cells.length sz&&gJ z.cells) with
  | false=>rw [hg] at hx;simp at hx
  | true=>
    rw [hg] at hx;simp only [cond_true,Option.some.injEq] at hx;subst hx;simp only [Bool.and_eq_true] at hg;obtain ⟨⟨⟨g1,g2⟩,g3⟩,g4⟩:=hg;have g1:=cB g1;have g2:=cB g2;have g3:=cB g3;have g4:=gX g4;subst g1;subst g2;have hle:off+len≤els.length:=of_decide_eq_true (hc (decide (off+len≤els.length)) (by simp));by_cases h0:len=0
    ·have hrun:(Builtin.clear_ #[t] ty #[v]).run P w = .ok (.tuple #[]) w:=by
      have:∃base cap,v = .slice base 0 cap:=by
       rcases hv with ⟨_,h⟩ | ⟨b,cap,_,h⟩
       ·exact h
       ·rw [h0] at h;exact ⟨_,_,h⟩
      obtain ⟨base,cap,rfl⟩:=this;have e0:(#[t]:Array TypeId)[0]? = some t:=rfl;have e1:(#[Value.slice base 0 cap]:Array Value)[0]? = some (.slice base 0 cap):=rfl;simp only [Builtin.clear_,e0,e1,Sem.run_bind,run_underlying hu',Result.andThen_ok];cases base<;>rfl
     have hel:els.take off++List.replicate len z++els.drop (off+len)=els:=by subst h0;simp
     have hset:bF s.O i (some (.arr ety zz els))=s.O:=by
      funext j;by_cases ej:j=i
      ·subst ej;rw [bN,hO]
      ·rw [dP _ _ ej]
     rw [hel];refine ⟨_,w,κ,φ,hrun,?_,?_,Fr.refl _ _,?_⟩
     ·rw [Dx,hset];exact F
     ·exact .d (.bn rfl (by simp))
     ·rw [Dx,hset];exact Kp.refl _ _
    ·rcases hv with ⟨h,_⟩ | ⟨b,cap,hφ,rfl⟩
     ·exact absurd h h0
     ·have ho:=F.objs i;rw [hO] at ho;rcases ho with ⟨h1,_⟩ | ⟨b',c,fz,h1,h2,h3,h4,h5⟩
      ·rw [h1] at hφ;cases hφ
      ·have hbb:b'=b:=by rw [h1] at hφ;injection hφ
       subst hbb;obtain ⟨zv,hz1,hz2⟩:=fC hz w;obtain ⟨d1,d2⟩:=(iI (κ:=κ) (h:=w.heap) hz2).cells;have hzs:zv.cells.size=zz:=by rw [d1,g3]
       have hzl:(Builtin.zeroCells zv.cells len).toList.length=len*zz:=by simp [Hr,hzs]
       have hmul:=Nat.mul_le_mul_right zz hle;rw [Nat.add_mul] at hmul;have h52:=h5.2.1;have hfit:off*zz+0+(Builtin.zeroCells zv.cells len).toList.length≤c.size:=by rw [hzl];omega
       have hone:∀x∈(Builtin.zeroCells zv.cells len).toList,x.oneCell=true:=by
        intro x hx;obtain ⟨j,hj⟩:=List.mem_iff_getElem?.1 hx;have hjl:=(List.getElem?_eq_some_iff.1 hj).1;rw [Array.getElem?_toList,qW _ _ _ (by rw [hzs];omega)] at hj;have hjm:=(Array.getElem?_eq_some_iff.1 hj).1;have hy:z.cells[j % zv.cells.size]? = some z.cells[j % zv.cells.size]:=by simp [show j % zv.cells.size < z.cells.length by omega]
        exact (d2 _ _ _ hy hj).oneCell (g4 _ (by simp))
       have hst:=dI (P:=P) b' (off*zz) ety fz (Builtin.zeroCells zv.cells len).toList 0 c w h3 h4 hfit hone;simp only [Nat.add_zero] at hst
       have hrun:(Builtin.clear_ #[t] ty #[.slice (some ⟨b',off*zz,none⟩) len cap]).run P w = .ok (.tuple #[]) (World.row w b' (.cells (eP c (off*zz) (Builtin.zeroCells zv.cells len).toList) ety fz)):=by
        have e0:(#[t]:Array TypeId)[0]? = some t:=rfl;have e1:(#[Value.slice (some ⟨b',off*zz,none⟩) len cap]:Array Value)[0]? = some (.slice (some ⟨b',off*zz,none⟩) len cap):=rfl;simp only [Builtin.clear_,e0,e1,Sem.run_bind,run_underlying hu',Result.andThen_ok];cases len with
        | zero=>exact absurd rfl h0
        | succ n=>simp only [hz1,Result.andThen_ok,hst,Sem.run_pure]
       have hsz:(eP c (off*zz) (Builtin.zeroCells zv.cells len).toList).size=c.size:=dV _ _ _ (by rw [hzl];omega);have hel:=EL.clear h5 hle ⟨g3,g4⟩ hzs d2
       obtain ⟨q1,q2,q3⟩:=F.write (i:=i) (p:=.arr ety zz (els.take off++List.replicate len z++els.drop (off+len))) (o:=.cells (eP c (off*zz) (Builtin.zeroCells zv.cells len).toList) ety fz) h2 h1
        (fun c' VI Qz hh=>by rw [h3] at hh;injection hh with hh;injection hh with e1 e2 e3;subst e1;subst e2;exact ⟨_,_,rfl,hsz⟩)
        (fun n hn=>by rw [hO];simp [av.dB] at hn ⊢;omega)
        (fun M=>.inr ⟨b',_,fz,h1,h2,dL h3,by rw [hsz];exact h4,hel.mono M.dN⟩)
       refine ⟨_,_,κ,φ,hrun,q1,.d (.bn rfl (by simp)),q3,q2.kp⟩
 ·cases hx
theorem Ku {κ:bE} {φ:bP} {w:World} {s:cu} {a:Act} (F:aA κ φ w s a) {t ty:Nat} {x:RV} {v:Value} {res:dz}
 (hx:qb (Env.of P) s.O t x=some res) (hc:∀b∈res.conds,b=true) (r:bJ κ φ s.O w.heap x v):Out P κ φ w s a res.val res.upd (Builtin.clear_ #[t] ty #[v]):=by
 unfold qb at hx;split at hx
 ·rename_i e i sz hu;split at hx
  ·rename_i sz' els hO;refine xQ F hu hx hc ?_;cases r with
   | own hφ hb hcap hlc hlen=>
     have:=hlen els.length (by rw [hO];rfl)
     subst this;exact .inr ⟨_,_,hφ,by rw [Nat.zero_mul]⟩
   | gL hφ=>
     have ho:=F.objs i;rw [hO] at ho;rcases ho with ⟨_,h2⟩ | ⟨b,c,fz,h1,_⟩
     ·subst h2;exact .inl ⟨rfl,_,_,rfl⟩
     ·rw [h1] at hφ;cases hφ
  ·cases hx
 ·rename_i e i sz off len hu;refine xQ F hu hx hc ?_;cases r with
  | sub hφ hb hcap hlc=>exact .inr ⟨_,_,hφ,rfl⟩
  | oH hφ=>exact .inl ⟨rfl,_,_,rfl⟩
 ·cases hx
end Go.Am
