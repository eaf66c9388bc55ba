import Derived.Test.YtljahlbklgnfhaaGreatDoorLG
import Derived.Test.YtljahlbklgnfhaaGreatDoorIT
import Derived.Test.YtljahlbklgnfhaaGreatDoorPR
import Derived.Test.YtljahlbklgnfhaaGreatDoorW1
import Derived.Test.YtljahlbklgnfhaaGreatDoorW13
import Derived.Test.YtljahlbklgnfhaaGreatDoorW2
import Derived.Test.YtljahlbklgnfhaaGreatDoorW3
import Derived.Test.YtljahlbklgnfhaaGreatDoorW14
import Derived.Test.YtljahlbklgnfhaaGreatDoorW4
import Derived.Test.YtljahlbklgnfhaaGreatDoorW5
import Derived.Test.YtljahlbklgnfhaaGreatDoorW6
import Derived.Test.YtljahlbklgnfhaaGreatDoorW7
import Derived.Test.YtljahlbklgnfhaaGreatDoorW8
import Derived.Test.YtljahlbklgnfhaaGreatDoorW9
import Derived.Test.YtljahlbklgnfhaaGreatDoorW10
import Derived.Test.YtljahlbklgnfhaaGreatDoorW12
import Derived.Test.YtljahlbklgnfhaaGreatDoorW11
set_option linter.unusedVariables false
namespace Go.Abs.U48
open Go.RowKit Go.Proofs
open Go.Proofs.Tryz
theorem J6h:Q0c env Z9h:=⟨by rintro b s h;exact X5b b s h,⟨Tryz.f36,V1t,rfl,by kernel_rfl⟩⟩
theorem Q1b:Q0c env Q0z:=⟨by rintro⟨s,c⟩ n h;exact J3n s c n h,⟨Tryz.f40,(fnq func40),rfl,by kernel_rfl⟩⟩
theorem V1r:Q0c env K1g:=⟨by rintro⟨xs,a⟩ s h;exact K4j xs a s h,⟨Tryz.f119,(fnq func119),rfl,by kernel_rfl⟩⟩
theorem Z5m:Q0c env Q9m:=⟨by rintro⟨b,c⟩ d h;exact J3l b c d h,⟨Tryz.f121,(fnq func121),rfl,by kernel_rfl⟩⟩
theorem Z0u:Q0c env Q7b:=⟨by rintro⟨b,s⟩ ⟨n,c⟩ h;exact Z8j b s n c h,⟨Tryz.f123,(fnq func123),rfl,by kernel_rfl⟩⟩
theorem Z8k:Q0c env Z3f:=⟨by rintro⟨s,n⟩ t h;exact X5c s n t h,⟨Tryz.f124,(fnq func124),rfl,by kernel_rfl⟩⟩
theorem K4s:Q0c env X2v:=⟨by rintro⟨s,a⟩ l h;exact X9f s a l h,⟨Tryz.f156,(fnq func156),rfl,by kernel_rfl⟩⟩
theorem J8r:Q0c env Z9i:=⟨by rintro⟨xs,s⟩ ok h;exact J6g xs s ok h,⟨Tryz.f157,(fnq func157),rfl,by kernel_rfl⟩⟩
theorem X9i:Q0c env X2w:=⟨by rintro⟨s,d⟩ ⟨a,b,ok⟩ h;exact V1d s d a b ok h,⟨Tryz.f161,(fnq func161),rfl,by kernel_rfl⟩⟩
theorem J6i:Q0c env Z5t:=⟨by rintro⟨s,p⟩ ok h;exact J3m s p ok h,⟨Tryz.f169,(fnq func169),rfl,by kernel_rfl⟩⟩
theorem J8q:Q0c env J4c:=⟨by rintro n s h;exact K4k n s h,⟨Tryz.f189,(fnq func189),rfl,by kernel_rfl⟩⟩
theorem X9j:Q0c env J9l:=⟨by rintro s ⟨n,a⟩ h;exact K4l s n a h,⟨Tryz.f199,(fnq func199),rfl,by kernel_rfl⟩⟩
theorem J3o:Q0c env Z3e:=⟨by rintro⟨s,a,b⟩ t h;exact J0e s a b t h,⟨Tryz.f216,(fnq func216),rfl,by kernel_rfl⟩⟩
theorem gG28:∀n,Q0c env (S28 (K28 n))/\Q0c env (S62 (K62 n))
 | 0=>⟨GH0 ⟨Tryz.f28,(fnq func28),rfl,by kernel_rfl⟩ (λ⟨_,_⟩=>rfl),GH0 ⟨Tryz.f62,(fnq func62),rfl,by kernel_rfl⟩ (λ⟨_,_⟩=>rfl)⟩
 | n+1=>by
  have d:=gG28 n
  obtain⟨a,b⟩:=d
  have e:Q0c env (S28 (F28 (K28 n) (K62 n))):=Y7h ⟨b,a,trivial⟩
  have f:Q0c env (S62 (F62 (K28 n) (K62 n))):=Y6t ⟨b,a,trivial⟩
  exact⟨e,f⟩
theorem gK28(n:Nat):Q0c env (S28 (K28 n)):=(gG28 n).1
theorem Y9n:Q0c env S12:=Y7s ⟨(gK28 BIG),trivial⟩
theorem Y1z:Q0c env S34:=Y7d trivial
theorem gG16:∀n,Q0c env (S16 (K16 n))/\Q0c env (S33 (K33 n))
 | 0=>⟨GH0 ⟨Tryz.f16,(fnq func16),rfl,by kernel_rfl⟩ (λ_=>rfl),GH0 ⟨Tryz.f33,(fnq func33),rfl,by kernel_rfl⟩ (λ_=>rfl)⟩
 | n+1=>by
  have d:=gG16 n
  obtain⟨a,b⟩:=d
  have e:Q0c env (S16 (F16 (K16 n) (K33 n))):=Y7o ⟨b,a,Y1z,trivial⟩
  have f:Q0c env (S33 (F33 (K16 n) (K33 n))):=Y7e ⟨b,a,trivial⟩
  exact⟨e,f⟩
theorem gK16(n:Nat):Q0c env (S16 (K16 n)):=(gG16 n).1
theorem gG25:∀n,Q0c env (S25 (K25 n))/\Q0c env (S61 (K61 n))
 | 0=>⟨GH0 ⟨Tryz.f25,(fnq func25),rfl,by kernel_rfl⟩ (λ_=>rfl),GH0 ⟨Tryz.f61,(fnq func61),rfl,by kernel_rfl⟩ (λ_=>rfl)⟩
 | n+1=>by
  have d:=gG25 n
  obtain⟨a,b⟩:=d
  have e:Q0c env (S25 (F25 (K25 n) (K61 n))):=Y7j ⟨b,a,Y1z,trivial⟩
  have f:Q0c env (S61 (F61 (K25 n) (K61 n))):=Y6u ⟨b,a,trivial⟩
  exact⟨e,f⟩
theorem gK25(n:Nat):Q0c env (S25 (K25 n)):=(gG25 n).1
theorem K8l:Q0c env S100:=Y0n trivial
theorem K8g:Q0c env S172:=V9a trivial
theorem Y2v:Q0c env S145:=V9p ⟨K8g,trivial⟩
theorem Y2p:Q0c env S185:=V8w trivial
theorem Y2o:Q0c env S186:=V8v trivial
theorem Y2n:Q0c env S187:=V8u trivial
theorem Y2q:Q0c env S171:=V9b trivial
theorem Y2u:Q0c env S148:=V9m ⟨Y2n,Y2q,trivial⟩
theorem Y2i:Q0c env S238:=V7s trivial
theorem Y2j:Q0c env S214:=V8i ⟨Y2i,trivial⟩
theorem gG30:∀n,Q0c env (S101 (K101 n))/\Q0c env (S184 (K184 n))
 | 0=>⟨GH0 ⟨Tryz.f101,(fnq func101),rfl,by kernel_rfl⟩ (λ_=>rfl),GH0 ⟨Tryz.f184,(fnq func184),rfl,by kernel_rfl⟩ (λ_=>rfl)⟩
 | n+1=>by
  have g:=gG30 n
  obtain⟨d,e⟩:=g
  have f:Q0c env (S65 (K101 n)):=V6q ⟨K8l,d,trivial⟩
  have a:Q0c env (S30 (K101 n)):=V6v ⟨f,trivial⟩
  have b:Q0c env (S146 (K184 n)):=V9o ⟨e,trivial⟩
  have i:Q0c env (S147 (K184 n)):=V9n ⟨e,Y2p,Y2o,trivial⟩
  have j:Q0c env (S149 (K101 n)):=V9l ⟨d,trivial⟩
  have l:Q0c env (S150 (K101 n) (K184 n)):=V9k ⟨b,a,trivial⟩
  have m:Q0c env (S101 (F101 (K101 n) (K184 n))):=Y0m ⟨Y2v,b,i,Y2u,j,f,a,l,trivial⟩
  have o:Q0c env (S184 (F184 (K101 n) (K184 n))):=V8x ⟨Y2j,K8g,b,a,trivial⟩
  exact⟨m,o⟩
theorem Y7v(n:Nat):Q0c env (S101 (K101 n)):=(gG30 n).1
theorem Y0p:Q0c env (S65 (K101 BIG)):=V6q ⟨K8l,(Y7v BIG),trivial⟩
theorem Y0u:Q0c env (S30 (K101 BIG)):=V6v ⟨Y0p,trivial⟩
theorem Y9m:Q0c env S14:=Y7q ⟨(gK16 BIG),(gK25 BIG),Y0u,trivial⟩
theorem Y1w:Q0c env S74:=Y6p trivial
theorem J9q:Q0c env S42:=Y7b ⟨Y1w,trivial⟩
theorem Y3b:Q0c env S117:=Y0d ⟨X9i,trivial⟩
theorem Y3a:Q0c env S118:=Y0c trivial
theorem Y1x:Q0c env S72:=Y6q ⟨Y3b,Y3a,V1r,trivial⟩
theorem Z4j:Q0c env J6w:=V1h trivial
theorem J4f:Q0c env X5y:=V1i ⟨Z4j,trivial⟩
theorem Z4k:Q0c env J6x:=V1n trivial
theorem K1m:Q0c env K5u:=V1o ⟨Z4k,J9q,trivial⟩
theorem V2w:Q0c env V2p:=V1m ⟨J4f,Y1x,Z4j,trivial⟩
theorem K5z:Q0c env K1k:=K4p ⟨Z4k,Q1b,J9q,trivial⟩
theorem K5y:Q0c env K1j:=K4o ⟨Z4k,Q1b,Z4j,Z0u,J9q,J6h,Z5m,trivial⟩
theorem K1l:Q0c env K5s:=V1g ⟨K5z,Z5m,Z4k,J9q,K5y,Z0u,Z8k,J6h,trivial⟩
theorem V2v:Q0c env V2o:=V1l ⟨K1m,K1l,Z4j,J4f,trivial⟩
theorem Y9f:Q0c env S76:=Y6o trivial
theorem Y2s:Q0c env S166:=V9d ⟨X9j,J8q,trivial⟩
theorem Y2y:Q0c env S125:=Y0a ⟨Q1b,X9i,Y2s,trivial⟩
theorem Y9e:Q0c env S77:=Y6n ⟨Z4k,J9q,Q1b,Y2y,Z4j,trivial⟩
theorem Y9d:Q0c env S78:=Y6m ⟨Q1b,J4f,trivial⟩
theorem Y2x:Q0c env S126:=V9z trivial
theorem Y9c:Q0c env S79:=Y6l ⟨Y2x,Z4j,Z8k,J4f,trivial⟩
theorem Y9j:Q0c env S44:=Y7a ⟨Y9f,Y9e,Y9d,Y9c,K1l,trivial⟩
theorem Y9l:Q0c env S19:=Y7m ⟨K1m,Z4k,Q1b,V2w,J9q,V2v,Y9j,trivial⟩
theorem Y9i:Q0c env S46:=Y6z ⟨Y1x,trivial⟩
theorem Q6c:Q0c env S84:=Y6h trivial
theorem X3a:Q0c env S128:=V9x trivial
theorem X3b:Q0c env S127:=V9y ⟨Q6c,X3a,trivial⟩
theorem K5w:Q0c env S80:=Y6k ⟨Q6c,X3b,trivial⟩
theorem K1n:Q0c env S133:=V9t ⟨Q1b,trivial⟩
theorem K8i:Q0c env S134:=V9s ⟨Q1b,J6i,trivial⟩
theorem J9p:Q0c env S83:=Y6i ⟨K1n,K8i,trivial⟩
theorem J1v:Q0c env S129:=V9w ⟨X3a,trivial⟩
theorem K1o:Q0c env S130:=V9v trivial
theorem K5v:Q0c env S81:=Y6j ⟨Q6c,J9p,X3a,J1v,K1o,trivial⟩
theorem Z5v:Q0c env S132:=V9u ⟨X3b,trivial⟩
theorem Z5u:Q0c env S168:=V9c ⟨Q6c,trivial⟩
theorem J4g:Q0c env S48:=Y6y trivial
theorem X2z:Q0c env S144:=V9q trivial
theorem J1u:Q0c env S255:=V7o ⟨Q6c,Z5v,J4g,trivial⟩
theorem Y2b:Q0c env S288:=V6x ⟨Y1w,trivial⟩
theorem Y2f:Q0c env S276:=V7c ⟨Y2b,trivial⟩
theorem K8h:Q0c env S155:=V9f trivial
theorem Y2c:Q0c env S287:=V6y ⟨K8h,trivial⟩
theorem Y2g:Q0c env S275:=V7d ⟨Y2c,trivial⟩
theorem Y2e:Q0c env S277:=V7b ⟨X9j,trivial⟩
theorem X2y:Q0c env S256:=V7n ⟨Q6c,K1n,X2z,J4g,trivial⟩
theorem gG47:∀n,Q0c env (S200 (K200 n))/\Q0c env (S252 (K252 n))
 | 0=>⟨GH0 ⟨Tryz.f200,(fnq func200),rfl,by kernel_rfl⟩ (λ⟨_,_,_,_,_⟩=>rfl),GH0 ⟨Tryz.f252,(fnq func252),rfl,by kernel_rfl⟩ (λ⟨_,_,_,_⟩=>rfl)⟩
 | n+1=>by
  have i:=gG47 n
  obtain⟨b,a⟩:=i
  have j:Q0c env (S167 (K200 n)):=K7m ⟨b,Z5v,Z5u,trivial⟩
  have l:Q0c env (S131 (K200 n)):=K7n ⟨j,Z5v,Z5u,trivial⟩
  have m:Q0c env (S82 (K200 n)):=V6p ⟨l,Z5v,trivial⟩
  have d:Q0c env (S47 (K200 n)):=V6t ⟨K5w,K5v,m,Q6c,J9p,J4g,trivial⟩
  have o:Q0c env (S223 (K200 n) (K252 n)):=V8h ⟨Q6c,a,K5v,b,trivial⟩
  have p:Q0c env (S224 (K200 n)):=V8g ⟨Q6c,Z5u,b,trivial⟩
  have e:Q0c env (S253 (K200 n)):=V7q ⟨J1u,d,trivial⟩
  have g:Q0c env (S254 (K252 n)):=V7p ⟨Q6c,Z8k,Q1b,J9q,Y2f,Y2g,X9i,Y2e,a,trivial⟩
  have q:Q0c env (S225 (K200 n) (K252 n)):=V8f ⟨Q6c,e,K1o,g,trivial⟩
  have r:Q0c env (S226 (K200 n)):=V8e ⟨Q6c,J1u,d,Z5u,b,trivial⟩
  have f:Q0c env (S257 (K252 n)):=V7m ⟨Z5u,Q6c,J1v,a,trivial⟩
  have t:Q0c env (S227 (K200 n) (K252 n)):=V8d ⟨Q6c,J1u,X2y,J9p,f,Z5u,b,trivial⟩
  have u:Q0c env (S258 (K200 n) (K252 n)):=V7l ⟨Q6c,a,J1v,K5w,d,trivial⟩
  have x:Q0c env (S228 (K200 n) (K252 n)):=V8c ⟨Q6c,a,J1u,K5w,J9p,u,trivial⟩
  have y:Q0c env (S229 (K200 n)):=V8b ⟨Q6c,X2y,X3b,e,trivial⟩
  have z:Q0c env (S230 (K252 n)):=V8a ⟨Q6c,a,J1v,trivial⟩
  have A:Q0c env (S231 (K252 n)):=V7z ⟨Q6c,J9p,J4g,J1v,a,K1o,g,trivial⟩
  have C:Q0c env (S200 (F200 (K200 n) (K252 n))):=V8q ⟨Q6c,K1n,X2z,X3a,o,p,q,J9p,r,t,x,y,z,J4g,K5v,A,trivial⟩
  have D:Q0c env (S286 (K252 n)):=V6z ⟨Q6c,X2y,X3b,f,J4g,J1u,trivial⟩
  have E:Q0c env (S274 (K200 n) (K252 n)):=V7e ⟨Q6c,J1v,J4g,D,X2y,f,J1u,e,trivial⟩
  have F:Q0c env (S252 (F252 (K200 n) (K252 n))):=V7r ⟨E,Z5v,trivial⟩
  exact⟨C,F⟩
theorem Y7u(n:Nat):Q0c env (S200 (K200 n)):=(gG47 n).1
theorem V1p:Q0c env (S167 (K200 BIG)):=K7m ⟨(Y7u BIG),Z5v,Z5u,trivial⟩
theorem V1q:Q0c env (S131 (K200 BIG)):=K7n ⟨V1p,Z5v,Z5u,trivial⟩
theorem Y0o:Q0c env (S82 (K200 BIG)):=V6p ⟨V1q,Z5v,trivial⟩
theorem Y0s:Q0c env (S47 (K200 BIG)):=V6t ⟨K5w,K5v,Y0o,Q6c,J9p,J4g,trivial⟩
theorem Y9k:Q0c env S20:=Y7l ⟨Y9i,Y0s,J4g,trivial⟩
theorem Y2a:Q0c env S32:=Y7f trivial
theorem gG15:∀n,Q0c env (S15 (K15 n))/\Q0c env (S31 (K31 n))
 | 0=>⟨GH0 ⟨Tryz.f15,(fnq func15),rfl,by kernel_rfl⟩ (λ_=>rfl),GH0 ⟨Tryz.f31,(fnq func31),rfl,by kernel_rfl⟩ (λ_=>rfl)⟩
 | n+1=>by
  have d:=gG15 n
  obtain⟨a,b⟩:=d
  have e:Q0c env (S15 (F15 (K15 n) (K31 n))):=Y7p ⟨a,b,Y2a,trivial⟩
  have f:Q0c env (S31 (F31 (K15 n) (K31 n))):=Y7g ⟨a,b,trivial⟩
  exact⟨e,f⟩
theorem gK15(n:Nat):Q0c env (S15 (K15 n)):=(gG15 n).1
theorem gG51:∀n,Q0c env (S51 (K51 n))/\Q0c env (S86 (K86 n))
 | 0=>⟨GH0 ⟨Tryz.f51,(fnq func51),rfl,by kernel_rfl⟩ (λ_=>rfl),GH0 ⟨Tryz.f86,(fnq func86),rfl,by kernel_rfl⟩ (λ_=>rfl)⟩
 | n+1=>by
  have d:=gG51 n
  obtain⟨a,b⟩:=d
  have e:Q0c env (S51 (F51 (K51 n) (K86 n))):=Y6v ⟨a,b,Y2a,trivial⟩
  have f:Q0c env (S86 (F86 (K51 n) (K86 n))):=Y6f ⟨b,a,trivial⟩
  exact⟨e,f⟩
theorem gK51(n:Nat):Q0c env (S51 (K51 n)):=(gG51 n).1
theorem Y9g:Q0c env S50:=Y6w ⟨(gK51 BIG),trivial⟩
theorem Y9b:Q0c env S85:=Y6g ⟨Y9g,trivial⟩
theorem Y9h:Q0c env S49:=Y6x ⟨Y9b,trivial⟩
theorem Y2k:Q0c env S21:=Y7k ⟨(gK15 BIG),Y9h,trivial⟩
theorem G_F8:Q0c env S8:=g_F8 ⟨Y9l,Y9k,Y2k,trivial⟩
theorem J9o:Q0c env S99:=Y6d ⟨X2z,trivial⟩
theorem K8k:Q0c env S108:=Y0f ⟨K8h,trivial⟩
theorem K8f:Q0c env S263:=V7g trivial
theorem Y2h:Q0c env S264:=V7f trivial
theorem Y2d:Q0c env S278:=V7a ⟨K8f,Q1b,trivial⟩
theorem gG29:∀n,Q0c env (S98 (K98 n))/\Q0c env (S182 (K182 n))/\Q0c env (S260 (K260 n))
 | 0=>⟨GH0 ⟨Tryz.f98,(fnq func98),rfl,by kernel_rfl⟩ (λ_=>rfl),GH0 ⟨Tryz.f182,(fnq func182),rfl,by kernel_rfl⟩ (λ_=>rfl),GH0 ⟨Tryz.f260,(fnq func260),rfl,by kernel_rfl⟩ (λ_=>rfl)⟩
 | n+1=>by
  have j:=gG29 n
  obtain⟨e,a,f⟩:=j
  have l:Q0c env (S64 (K98 n)):=V6r ⟨e,J9o,trivial⟩
  have m:Q0c env (S63 (K98 n)):=V6s ⟨l,trivial⟩
  have o:Q0c env (K5r (K98 n)):=X9g ⟨m,trivial⟩
  have p:Q0c env (K5t (K98 n)):=X9h ⟨o,trivial⟩
  have b:Q0c env (S29 (K98 n)):=V6w ⟨p,trivial⟩
  have q:Q0c env (S183 (K182 n)):=V8y ⟨a,trivial⟩
  have r:Q0c env (V2l (K182 n)):=V1f ⟨q,trivial⟩
  have t:Q0c env (V2n (K182 n)):=V1k ⟨r,trivial⟩
  have u:Q0c env (S143 (K182 n)):=V9r ⟨a,J9o,t,trivial⟩
  have x:Q0c env (S98 (F98 (K98 n) (K182 n))):=Y6e ⟨u,J9o,e,trivial⟩
  have y:Q0c env (S261 (K260 n)):=V7i ⟨f,trivial⟩
  have z:Q0c env (K1h (K260 n)):=K4m ⟨y,trivial⟩
  have A:Q0c env (K1i (K260 n)):=K4n ⟨z,trivial⟩
  have g:Q0c env (S234 (K260 n)):=V7w ⟨f,A,trivial⟩
  have C:Q0c env (S233 (K260 n)):=V7x ⟨g,trivial⟩
  have D:Q0c env (S259 (K260 n)):=V7k ⟨C,trivial⟩
  have E:Q0c env (S232 (K260 n)):=V7y ⟨D,trivial⟩
  have d:Q0c env (S207 (K260 n)):=V8p ⟨E,trivial⟩
  have F:Q0c env (S208 (K182 n)):=V8o ⟨a,trivial⟩
  have H:Q0c env (S237 (K260 n)):=V7t ⟨g,K8k,K8f,Q1b,Y2h,trivial⟩
  have I:Q0c env (S236 (K260 n)):=V7u ⟨H,trivial⟩
  have J:Q0c env (S262 (K260 n)):=V7h ⟨I,trivial⟩
  have K:Q0c env (S235 (K260 n)):=V7v ⟨J,trivial⟩
  have i:Q0c env (S209 (K260 n)):=V8n ⟨K,trivial⟩
  have L:Q0c env (S210 (K98 n)):=V8m ⟨J9o,b,trivial⟩
  have M:Q0c env (S212 (K98 n) (K260 n)):=V8k ⟨J9o,d,b,trivial⟩
  have N:Q0c env (S211 (K98 n) (K260 n)):=V8l ⟨M,trivial⟩
  have O:Q0c env (V2k (K98 n) (K260 n)):=V1e ⟨N,trivial⟩
  have P:Q0c env (V2m (K98 n) (K260 n)):=V1j ⟨O,trivial⟩
  have Q:Q0c env (S213 (K260 n)):=V8j ⟨d,i,Q1b,K8i,trivial⟩
  have S:Q0c env (S182 (F182 (K98 n) (K182 n) (K260 n))):=V8z ⟨J9o,d,F,b,i,L,a,P,Q,trivial⟩
  have T:Q0c env (S260 (F260 (K98 n) (K260 n))):=V7j ⟨X2z,Y2d,d,b,trivial⟩
  exact⟨x,S,T⟩
theorem gK98(n:Nat):Q0c env (S98 (K98 n)):=(gG29 n).1
theorem Y0q:Q0c env (S64 (K98 BIG)):=V6r ⟨(gK98 BIG),J9o,trivial⟩
theorem Y0r:Q0c env (S63 (K98 BIG)):=V6s ⟨Y0q,trivial⟩
theorem K4q:Q0c env (K5r (K98 BIG)):=X9g ⟨Y0r,trivial⟩
theorem K4r:Q0c env (K5t (K98 BIG)):=X9h ⟨K4q,trivial⟩
theorem Y0v:Q0c env (S29 (K98 BIG)):=V6w ⟨K4r,trivial⟩
theorem Y2w:Q0c env S13:=Y7r ⟨Y2k,Y0v,trivial⟩
theorem Y1y:Q0c env S36:=Y7c trivial
theorem Y2t:Q0c env S163:=V9e trivial
theorem Y2z:Q0c env S123:=Y0b ⟨Y2t,trivial⟩
theorem Q7m:Q0c env S103:=Y0k ⟨Y2z,trivial⟩
theorem K8j:Q0c env S109:=Y0e ⟨K4s,J8r,trivial⟩
theorem K5x:Q0c env S67:=Y6r ⟨Y1y,K8k,Q7m,K8j,trivial⟩
theorem Y2m:Q0c env S188:=V8t ⟨J8q,trivial⟩
theorem Y2l:Q0c env S190:=V8s ⟨Q7m,J3o,trivial⟩
theorem gG35:∀n,Q0c env (S66 (K66 n))/\Q0c env (S152 (K152 n))
 | 0=>⟨GH0 ⟨Tryz.f66,(fnq func66),rfl,by kernel_rfl⟩ (λ⟨_,_,_⟩=>rfl),GH0 ⟨Tryz.f152,(fnq func152),rfl,by kernel_rfl⟩ (λ⟨_,_,_⟩=>rfl)⟩
 | n+1=>by
  have l:=gG35 n
  obtain⟨b,a⟩:=l
  have e:Q0c env (S35 (K66 n)):=V6u ⟨b,K5x,trivial⟩
  have f:Q0c env (S102 (K66 n)):=Y0l ⟨Q7m,b,trivial⟩
  have d:Q0c env (S104 (K66 n)):=Y0j ⟨Q7m,K5x,e,trivial⟩
  have g:Q0c env (S151 (K152 n)):=V9j ⟨Y2m,Q7m,J8q,a,K8j,trivial⟩
  have i:Q0c env (S105 (K152 n)):=Y0i ⟨Q7m,g,trivial⟩
  have m:Q0c env (S106 (K152 n)):=Y0h ⟨Q7m,a,g,i,trivial⟩
  have j:Q0c env (S153 (K152 n)):=V9h ⟨Q7m,a,trivial⟩
  have o:Q0c env (S154 (K66 n) (K152 n)):=V9g ⟨Q7m,j,K5x,e,trivial⟩
  have p:Q0c env (S107 (K66 n) (K152 n)):=Y0g ⟨Q7m,a,f,d,b,j,o,trivial⟩
  have q:Q0c env (S66 (F66 (K66 n) (K152 n))):=Y6s ⟨f,Q7m,d,i,m,p,trivial⟩
  have r:Q0c env (S191 (K152 n)):=V8r ⟨Q7m,a,trivial⟩
  have t:Q0c env (S152 (F152 (K66 n) (K152 n))):=V9i ⟨Y2l,Q7m,r,d,trivial⟩
  exact⟨q,t⟩
theorem gK66(n:Nat):Q0c env (S66 (K66 n)):=(gG35 n).1
theorem Y0t:Q0c env (S35 (K66 BIG)):=V6u ⟨(gK66 BIG),K5x,trivial⟩
theorem Y2r:Q0c env S17:=Y7n ⟨Y2w,Y0t,Y1y,trivial⟩
theorem G_F7:Q0c env (S7 F7):=g_F7 ⟨G_F8,(gK15 BIG),Y2w,Y2r,trivial⟩
theorem gG10:∀n,Q0c env (S10 (K10 n))/\Q0c env (S26 (K26 n))
 | 0=>⟨GH0 ⟨Tryz.f10,(fnq func10),rfl,by kernel_rfl⟩ (λ⟨_,_⟩=>rfl),GH0 ⟨Tryz.f26,(fnq func26),rfl,by kernel_rfl⟩ (λ⟨_,_⟩=>rfl)⟩
 | n+1=>by
  have d:=gG10 n
  obtain⟨a,b⟩:=d
  have e:Q0c env (S10 (F10 (K10 n) (K26 n))):=Y7t ⟨b,a,trivial⟩
  have f:Q0c env (S26 (F26 (K10 n) (K26 n))):=Y7i ⟨b,a,trivial⟩
  exact⟨e,f⟩
theorem gK10(n:Nat):Q0c env (S10 (K10 n)):=(gG10 n).1
theorem G_F6:Q0c env S6:=g_F6 ⟨Y9n,Y9m,G_F7,Y2r,G_F8,(gK10 BIG),trivial⟩
theorem good_F6(a:List Cmd)(h:F6 a=some true):Good env 6 [vC a] [] [ab true] []:=G_F6.1 a true h
end Go.Abs.U48
